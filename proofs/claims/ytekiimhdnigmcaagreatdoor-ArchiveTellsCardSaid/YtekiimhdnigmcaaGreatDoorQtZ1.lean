/- Parts. -/
import Derived.Test.YtekiimhdnigmcaaGreatDoorQtSep11
import Derived.IntWalk
import Derived.Maps.RangeRun
import Derived.Test.YtekiimhdnigmcaaGreatDoorQtSep8
import Derived.Test.YtekiimhdnigmcaaGreatDoorQtSep10
import Derived.Test.YtekiimhdnigmcaaGreatDoorQtRnd
import Derived.RangeFuncLeaves
import Derived.Recover
import Derived.Test.YtekiimhdnigmcaaGreatDoorQtSep5
import Derived.Test.YtekiimhdnigmcaaGreatDoorQtConv
import Derived.Test.YtekiimhdnigmcaaGreatDoorQtSep9
import Derived.Lib.AppendZeros
import Derived.Test.YtekiimhdnigmcaaGreatDoorQtVarint
import Derived.Test.YtekiimhdnigmcaaGreatDoorQtCrcP
import Derived.Test.YtekiimhdnigmcaaGreatDoorQtNum
import Derived.ChangeKeysEq
import Derived.Laws.StructEq
import Derived.Laws.Slices
import Derived.Test.YtekiimhdnigmcaaGreatDoorQtSep7
import Derived.Test.YtekiimhdnigmcaaGreatDoorQtSta
import Derived.Test.YtekiimhdnigmcaaGreatDoorQtSep6
import Derived.Deep.AppendSrc
set_option linter.all false
set_option maxRecDepth 100000
set_option maxHeartbeats 1000000
namespace Go.Proofs.YtekiimhdnigmcaaGreatDoor
open Go.RowKit
def nu:Go.IntKind→Nat
 | .i8=>127| .i16=>32767| .i32=>2147483647| .i64=>9223372036854775807
 | .u8=>255| .u16=>65535| .u32=>4294967295| .u64=>18446744073709551615
theorem Dl (k:Go.IntKind) {m:Nat} (h:m≤nu k):Go.IntKind.wrap k (m:Int)=(m:Int):=by
 cases k<;>simp only [nu] at h
 ·exact IntWalk.i8_in _ om
 ·exact IntWalk.i16_in _ om
 ·exact IntWalk.i32_in _ om
 ·exact IntWalk.i64_in _ om
 ·exact IntWalk.u8_in _ om
 ·exact IntWalk.u16_in _ om
 ·exact IntWalk.u32_in _ om
 ·exact IntWalk.u64_in _ om
theorem wJ {x:Int} {m:Nat} (h:x=(m:Int)) (hb:m≤9223372036854775807):Value.int .i64 (Go.IntKind.i64.wrap x)= .int .i64 (m:Int):=by subst h;rw [Dl .i64 hb]
theorem Dm {x:Int} {m:Nat} (h:x=(m:Int)) (hb:m≤18446744073709551615):Value.int .u64 (Go.IntKind.u64.wrap x)= .int .u64 (m:Int):=by subst h;rw [Dl .u64 hb]
theorem E8 {x:Int} {m:Nat} (h:x=(m:Int)) (hb:m≤4294967295):Value.int .u32 (Go.IntKind.u32.wrap x)= .int .u32 (m:Int):=by subst h;rw [Dl .u32 hb]
theorem rC (m:Nat):Value.int .u8 (Go.IntKind.u8.wrap (m:Int))= .int .u8 ((m%256:Nat):Int):=by
 rw [Go.IntKind.wrap_u8];simp
theorem qy5 (m:Nat):Value.int .u32 (Go.IntKind.u32.wrap (m:Int))= .int .u32 ((m%4294967296:Nat):Int):=by
 rw [Go.IntKind.wrap_u32];simp
theorem zy (k:Go.IntKind) (m n:Nat):Value.int k (Int.tmod (m:Int) (n:Int))= .int k ((m%n:Nat):Int):=by rw [Int.tmod_eq_emod_of_nonneg om];rfl
theorem zF (k:Go.IntKind) {m:Nat} (n:Nat) (h:m≤nu k):Value.int k (Go.IntKind.wrap k (Int.tdiv (m:Int) (n:Int)))= .int k ((m/n:Nat):Int):=by
 rw [Int.tdiv_eq_ediv_of_nonneg om,show ((m:Int)/ (n:Int))=((m/n:Nat):Int) from rfl,Dl k (Nat.le_trans (Nat.div_le_self _ _) h)]
theorem Dn (k:Go.IntKind) (m:Nat) {j:Nat} {p:Int} {q:Nat} (hp:p=(j:Int)) (hq:2^ (min p.toNat k.bits)=q):Value.int k (Int.fdiv (m:Int) (2^ (min p.toNat k.bits)))= .int k ((m/q:Nat):Int):=by grind
theorem VP (w:Nat) {m:Nat} (h:m<2^w):(BitVec.ofInt w (m:Int)).toNat=m:=by grind
theorem zaa (k:Go.IntKind) {m n:Nat} (hm:m<2^k.bits) (hn:n<2^k.bits) (hr:m&&&n≤nu k):Value.int k (Go.IntKind.wrap k (BitVec.ofInt k.bits (m:Int)&&&BitVec.ofInt k.bits (n:Int)).toNat)= .int k ((m&&&n:Nat):Int):=by grind [VP,Dl]
theorem q8i (k:Go.IntKind) {m n:Nat} (hm:m<2^k.bits) (hn:n<2^k.bits) (hr:m|||n≤nu k):Value.int k (Go.IntKind.wrap k (BitVec.ofInt k.bits (m:Int)|||BitVec.ofInt k.bits (n:Int)).toNat)= .int k ((m|||n:Nat):Int):=by grind [VP,Dl]
theorem qy6 (k:Go.IntKind) {m n:Nat} (hm:m<2^k.bits) (hn:n<2^k.bits) (hr:m^^^n≤nu k):Value.int k (Go.IntKind.wrap k (BitVec.ofInt k.bits (m:Int)^^^BitVec.ofInt k.bits (n:Int)).toNat)= .int k ((m^^^n:Nat):Int):=by grind [VP,Dl]
theorem qtz (k:Go.IntKind) {m j n:Nat} (hn:n=2^j-1) (hj:2^j-1≤nu k) (hm:m<2^k.bits) (hn2:n<2^k.bits):Value.int k (Go.IntKind.wrap k (BitVec.ofInt k.bits (m:Int)&&&BitVec.ofInt k.bits (n:Int)).toNat)= .int k ((m%2^j:Nat):Int):=by
 subst hn
 have h:=Nat.and_two_pow_sub_one_eq_mod m j
 rw [zaa k hm hn2 (by rw [h];have:=Nat.mod_lt m (Nat.two_pow_pos j);omega),h]
theorem zdd {m n:Nat} (hm:m<256) (hn:n<256):Value.int .u8 (Go.IntKind.u8.wrap (BitVec.ofInt Go.IntKind.u8.bits (m:Int)^^^BitVec.ofInt Go.IntKind.u8.bits (n:Int)).toNat)= .int .u8 ((m^^^n:Nat):Int):=
 qy6 .u8 (by show m<256;omega) (by show n<256;omega) (by have h:m^^^n<256:=Nat.xor_lt_two_pow (n:=8) (by simpa using hm) (by simpa using hn);show _≤255;omega)
theorem zde {m n:Nat} (hm:m<4294967296) (hn:n<4294967296):Value.int .u32 (Go.IntKind.u32.wrap (BitVec.ofInt Go.IntKind.u32.bits (m:Int)|||BitVec.ofInt Go.IntKind.u32.bits (n:Int)).toNat)= .int .u32 ((m|||n:Nat):Int):=
 q8i .u32 (by show m<4294967296;omega) (by show n<4294967296;omega) (by have h:m|||n<4294967296:=Nat.or_lt_two_pow (n:=32) (by simpa using hm) (by simpa using hn);show _≤4294967295;omega)
theorem MP {m n:Nat} (hm:m<4294967296) (hn:n<4294967296):Value.int .u32 (Go.IntKind.u32.wrap (BitVec.ofInt Go.IntKind.u32.bits (m:Int)^^^BitVec.ofInt Go.IntKind.u32.bits (n:Int)).toNat)= .int .u32 ((m^^^n:Nat):Int):=
 qy6 .u32 (by show m<4294967296;omega) (by show n<4294967296;omega) (by have h:m^^^n<4294967296:=Nat.xor_lt_two_pow (n:=32) (by simpa using hm) (by simpa using hn);show _≤4294967295;omega)
theorem qt0 {m j n:Nat} (hn:n=2^j-1) (hn2:n<4294967296) (hm:m<4294967296):Value.int .u32 (Go.IntKind.u32.wrap (BitVec.ofInt Go.IntKind.u32.bits (m:Int)&&&BitVec.ofInt Go.IntKind.u32.bits (n:Int)).toNat)= .int .u32 ((m%2^j:Nat):Int):=
 qtz .u32 hn (by rw [←hn];show n≤4294967295;omega) (by show m<4294967296;omega) (by show n<4294967296;omega)
theorem q44 {m j n:Nat} (hn:n=2^j-1) (hn2:n<18446744073709551616) (hm:m<18446744073709551616):Value.int .u64 (Go.IntKind.u64.wrap (BitVec.ofInt Go.IntKind.u64.bits (m:Int)&&&BitVec.ofInt Go.IntKind.u64.bits (n:Int)).toNat)= .int .u64 ((m%2^j:Nat):Int):=
 qtz .u64 hn (by rw [←hn];show n≤18446744073709551615;omega) (by show m<18446744073709551616;omega) (by show n<18446744073709551616;omega)
theorem zdf {m n:Nat} (hm:m<9223372036854775808) (hn:n<9223372036854775808):Value.int .i64 (Go.IntKind.i64.wrap (BitVec.ofInt Go.IntKind.i64.bits (m:Int)|||BitVec.ofInt Go.IntKind.i64.bits (n:Int)).toNat)= .int .i64 ((m|||n:Nat):Int):=
 q8i .i64 (by show m<18446744073709551616;omega) (by show n<18446744073709551616;omega) (by have h:m|||n<9223372036854775808:=Nat.or_lt_two_pow (n:=63) (by simpa using hm) (by simpa using hn);show _≤9223372036854775807;omega)
theorem getD_at {α:Type} {l:List α} {k:Nat} (d:α) (h:k<l.length):l[k]?=some (l.getD k d):=by
 rw [List.getD_eq_getElem?_getD,List.getElem?_eq_getElem h];rfl
theorem qi {α:Type} {l:List α} {k:Nat} (d:α) (h:k<l.length):l.getD k d∈l:=List.mem_of_getElem? (getD_at d h)
theorem getD_lt {l:List Nat} {m:Nat} (hl:∀b∈l,b<m) {k:Nat} (h:k<l.length):l.getD k 0<m:=hl _ (qi 0 h)
end Go.Proofs.YtekiimhdnigmcaaGreatDoor
namespace Go.Proofs.YtekiimhdnigmcaaGreatDoor
open Go.RowKit Go.MapKept
def Qm (p:Nat×Nat) (b:Nat):MapEntry:={key:= .int .i64 (p.1:Int),val:= .int .i64 (p.2:Int),born:=b}
def Gd:Nat→List (Nat×Nat)→List MapEntry
 |_,[]=>[]
 |b,p::l=>Qm p b::Gd (b+1) l
def mapA (l:List (Nat×Nat)):Array MapEntry:=(Gd 0 l).toArray
section
variable {P:Program} {Q:Exit→Act→World→Prop} {a:Act} {W w:World} {n d:Nat} {D:List Deferred} {σ:List (Nat×Value)} {o:Oper} {K:Act→World→Prop} {fs:List Fact} {S:World→Prop}
end
structure Uw (l:List (Nat×Nat)) (seen:Array Nat) (c:Nat):Prop where
 odd:(c:Int)%2=seenSum (mapA l).toList seen%2
 few:c+(leftOf (mapA l) seen).size≤l.length
end Go.Proofs.YtekiimhdnigmcaaGreatDoor
namespace Go.Proofs.YtekiimhdnigmcaaGreatDoor
open Go.RowKit
section
variable {W w w':World} {fs gs fs':List Fact}
theorem Mem.perm (h:Mem W w fs) (hp:fs.Perm fs'):Mem W w fs':=
 ⟨h.below,fun f hf=>h.holds f (hp.mem_iff.2 hf),(hp.pairwise_iff (fun {_ _} hab=>hab.symm)).1 h.apart⟩
theorem Mem.uW (h:Mem W w fs) (hs:fs'.Sublist fs):Mem W w fs':=
 ⟨h.below,fun f hf=>h.holds f (hs.subset hf),h.apart.sublist hs⟩
theorem Fact.holds.base {b b':Nat} {f:Fact} (h:f.holds b w) (hb:b'≤b):f.holds b' w:=by
 cases f with
 |blk g cs t=>exact ⟨Nat.le_trans hb h.1,h.2⟩
 |obj g o=>exact ⟨Nat.le_trans hb h.1,h.2⟩
 |row v n xs e size=>exact R3 h hb
theorem Mem.join (h:Mem W w fs) (k:Mem w w' gs):Mem W w' (gs++fs):=by
 have hf:=h.call k.below
 refine ⟨hf.below,?_,?_⟩
 ·intro f hm
  rcases List.mem_append.1 hm with hm|hm
  ·exact (k.holds f hm).base h.size
  ·exact hf.holds f hm
 ·refine List.pairwise_append.2 ⟨k.apart,h.apart,?_⟩
  intro f hfm g hgm x hx hgx
  have h1:=((k.holds f hfm).lt hx).1
  have h2:=((h.holds g hgm).lt hgx).2
  omega
theorem Mem.Du {A:Option Addr} {n c:Nat} {xs:List Value} {e:TypeId} {size:Nat} (h:Mem W w fs) (hf:Fact.row (.slice A n c) n xs e size∈fs):Rd w w.heap.size size A n xs:=by
 obtain ⟨i,hi⟩:=List.mem_iff_getElem?.1 hf
 exact h.rd hi
theorem Mem.dZ {W w:World} {fs:List Fact} (h:Mem W w fs) {i g:Nat} {cs ds:Array Value} {t:TypeId} (hi:fs[i]?=some (.blk g cs t)) (he:cs=ds):Mem W w (fs.set i (.blk g ds t)):=by grind [List.getElem?_eq_some_iff,List.set_getElem_self]
structure Own where
 A:Option Addr
 n:Nat
 c:Nat
 xs:List Value
def Own.fact (e:TypeId) (size:Nat) (p:Own):Fact:= .row (.slice p.A p.n p.c) p.n p.xs e size
def ny (e:TypeId) (size:Nat) (ps:List Own):List Fact:=ps.map (Own.fact e size)
theorem Mem.zff {e:TypeId} {size n c:Nat} {A:Option Addr} {xs:List Value} {ps:List Own} (h:Mem W w (.row (.slice A n c) n xs e size::(fs++ny e size ps))):Mem W w (fs++ny e size (ps++[⟨A,n,c,xs⟩])):=by
 refine h.perm ?_
 unfold ny
 rw [List.map_append,←List.append_assoc]
 exact (List.perm_append_singleton _ _).symm
theorem Mem.wL (h:Mem W w fs) (e:TypeId) (size:Nat):Mem W w (fs++ny e size []):=by unfold ny;simpa using h
end
section
variable {P:Program} {ops:Array Oper} {Q:Exit→Act→World→Prop} {a:Act} {w:World}
end
section
variable {P:Program} {ops:Array Oper} {Q:Exit→Act→World→Prop} {a:Act} {W w:World} {l n N i d:Nat} {D:List Deferred} {σ σ':List (Nat×Value)} {K:Act→World→Prop} {fs:List Fact} {o:Oper}
theorem VZ (hQ:¬LetsOut Q):∀(os:List Oper),(∀o∈os,∀c,o.op≠ .defer c)→∀a w,wpList P ops Q os a w→wpListIn (Fence.wide.inRound l) 0 P ops Q os a w
 |[],_,_,_,h=>h
 | o :: os, hos, a, w, h => by
  unfold wpList at h
  unfold wpListIn
  split at h
  ·rename_i hw
   rw [if_pos hw]
   exact qyr (hos o List.mem_cons_self) hQ (fun a w h=>VZ hQ os (fun o ho=>hos o (List.mem_cons_of_mem _ ho)) a w h) h
  ·rename_i hw
   rw [if_neg hw]
   exact ⟨fun _ _=>trivial,VZ hQ os (fun o ho=>hos o (List.mem_cons_of_mem _ ho)) _ _ h⟩
theorem Fa {id:Nat} (h:qk P ops Q 0 a w) (hd:qyq ops=true:=by kernel_rfl) (hQ:¬LetsOut Q:=by intro ⟨_,_,h⟩;exact h):(Code.region id ops false).wpIn (Fence.wide.inRound l) 0 P Q a w:=
 wpIn_region_list (VZ hQ _ (fun o ho=>by
  obtain ⟨j,hj⟩:=List.mem_iff_getElem?.1 ho
  exact qwj hd (i:=j) (by simpa using hj)) a w (by simpa [qk] using h))
theorem qrp {F:Fence} {c:Operand} {x y:Code} (Z:Fr a n D σ) (hc:look σ c=some (.bool true)) (h:x.wpIn F 0 P Q a w):(Code.cond c x y).wpIn F 0 P Q a w:=wpIn_cond_true (Z.eval hc) h
theorem qow {F:Fence} {c:Operand} {x y:Code} (Z:Fr a n D σ) (hc:look σ c=some (.bool false)) (h:y.wpIn F 0 P Q a w):(Code.cond c x y).wpIn F 0 P Q a w:=wpIn_cond_false (Z.eval hc) h
def yP (fn:FuncId) (tmps:Array Value) (ps:Array Tmp) (assign body:Code) (D:Nat) (st:LoopState) (pe:Option Code):Loop:={state:=st,pending:=pe,fn,tmps,params:=ps,assign,body,defers:=D}
def roundEnd (W:World) (l:Nat) (rec:LoopState→Option Code→Loop) (R:Ending→World→Prop):Exit→Act→World→Prop
 | .normal,_,w=>∃F,Mem W w (.obj l (.loop (rec .busy none))::F)∧∀w',Mem W w' (.obj l (.loop (rec .ready none))::F)→R (.returned (.bool true)) w'
 | .ret,_,w=>∃F,Mem W w (.obj l (.loop (rec .busy none))::F)∧∀w',Mem W w' (.obj l (.loop (rec .done (some .ret)))::F)→R (.returned (.bool false)) w'
 | .exit id,_,w=>∃F,Mem W w (.obj l (.loop (rec .busy none))::F)∧∀w',Mem W w' (.obj l (.loop (rec .done (some (.exit id))))::F)→R (.returned (.bool false)) w'
 |_,_,_=>False
theorem qjg {fn:FuncId} {tmps:Array Value} {ps:Array Tmp} {assign body:Code} {B:Nat} {args:Array Value} {F:List Fact} {R:Ending→World→Prop} (E:Mem W w (.obj l (.loop (yP fn tmps ps assign body B .ready none))::F)) (hs:args.size=ps.size)
  (h : assign.wpIn (Fence.wide.inRound l) 0 P (Exit.then (fun a1 w1 => ∃ F1, Mem W w1 (.obj l (.loop (yP fn tmps ps assign body B .ready none)) :: F1) ∧ ∀ w2, Mem W w2 (.obj l (.loop (yP fn tmps ps assign body B .busy none)) :: F1) → body.wpIn (Fence.wide.inRound l) 0 P (roundEnd W l (yP fn tmps ps assign body B) R) a1 w2) (fun _ _ _ => False))
   {tmps:=(ps.zip args).foldl (fun t (p,v)=>t.setIfInBounds p v) tmps,defers:=[]} w):YieldAt Fence.wide 0 P l args w R:=by
 have hl:=E.jm (i:=0) rfl
 refine ⟨fn,_,assign,body,run_yield hl hs,roundIn_of_wpIn trivial (wpIn_mono h ?_)⟩
 rintro e a1 w1 hq
 cases e with
 | normal =>
  obtain ⟨F1,h1,h2⟩:=hq
  refine ⟨_,run_beginRound (h1.jm (i:=0) rfl) rfl,?_⟩
  refine wpIn_mono (h2 _ (h1.setObj (i:=0) rfl _)) ?_
  rintro e a2 w2 hq
  cases e with
  |normal=>
   obtain ⟨F2,h3,h4⟩:=hq
   exact ⟨_,_,run_endRound none (h3.jm (i:=0) rfl),h4 _ (h3.setObj (i:=0) rfl _)⟩
  |ret=>
   obtain ⟨F2,h3,h4⟩:=hq
   exact ⟨_,_,run_endRound (some .ret) (h3.jm (i:=0) rfl),h4 _ (h3.setObj (i:=0) rfl _)⟩
  |exit id=>
   obtain ⟨F2,h3,h4⟩:=hq
   exact ⟨_,_,run_endRound (some (.exit id)) (h3.jm (i:=0) rfl),h4 _ (h3.setObj (i:=0) rfl _)⟩
  |goto t=>exact hq.elim
  |panic c=>exact hq.elim
  |outgrown=>exact hq.elim
 |exit id=>exact hq.elim
 |goto t=>exact hq.elim
 |ret=>exact hq.elim
 |panic c=>exact hq.elim
 |outgrown=>exact hq.elim
theorem Fr.V3 {tmps:Array Value} {p1 p2:Nat} {v1 v2:Value} (h:Fr {tmps:=tmps,defers:=[]} n D σ) (h1:p1<n) (h2:p2<n):Fr {tmps:=(#[p1,p2].zip #[v1,v2]).foldl (fun t (p,v)=>t.setIfInBounds p v) tmps,defers:=[]} n D ((p2,v2)::(p1,v1)::σ):=by
 have h3:=(h.put h1 v1).put h2 v2
 simpa [Act.put] using h3
theorem qib {rec:LoopState→Option Code→Loop} {assign body:Code} {B p1 p2:Nat} {v1 v2:Value} {F:List Fact} {R:Ending→World→Prop} (hrec:∃fn tmps,rec=yP fn tmps #[p1,p2] assign body B∧Fr {tmps:=tmps,defers:=[]} n [] σ) (E:Mem W w (.obj l (.loop (rec .ready none))::F)) (h1:p1<n) (h2:p2<n)
  (h:∀a,Fr a n [] ((p2,v2)::(p1,v1)::σ)→assign.wpIn (Fence.wide.inRound l) 0 P (Exit.then (fun a1 w1=>∃F1,Mem W w1 (.obj l (.loop (rec .ready none))::F1)∧∀w2,Mem W w2 (.obj l (.loop (rec .busy none))::F1)→body.wpIn (Fence.wide.inRound l) 0 P (roundEnd W l rec R) a1 w2) (fun _ _ _=>False)) a w):YieldAt Fence.wide 0 P l #[v1,v2] w R:=by
 obtain ⟨fn,tmps,rfl,Z⟩:=hrec
 exact qjg E rfl (h _ (Z.V3 h1 h2))
theorem V4 {a:Act} {w:World} {K K':Act→World→Prop} (hQ:¬LetsOut Q) (hK:∀a w,K a w→K' a w) (h:o.wp P a w K Q∨(o.asks P a w∧LetsOut Q)):o.wpIn Fence.wide 0 P a w K' Q:=by
 rcases h with h|h
 ·refine ⟨fun _ _=>trivial,?_⟩
  rw [show Fence.wide.round=none from rfl,Oper.semAt_none]
  unfold Oper.wp at h
  generalize (execOp a.eval o).run P w=r at h
  cases r with
  | ok x w' =>
   cases x with
   |value v=>exact hK _ _ h
   |skip=>exact hK _ _ h
   |defer d=>exact hK _ _ h
   |enter f args=>
    refine ⟨fun h=>by simp [Fence.wide] at h,?_⟩
    show CallsIn Fence.wide 0 P f args w' _
    refine (callsIn_wide.2 h).mono ?_
    intro e w'' he
    cases e with
    |returned v=>exact hK _ _ he
    |panicked c=>exact he
    |outgrown=>exact he
   |row r args=>
    refine ⟨fun h=>by simp [Fence.wide] at h,fun c cs _=>?_⟩
    obtain ⟨v,w'',h1,h2⟩:=(h:Rows P r args w' _) c cs
    exact ⟨v,w'',hK _ _ h1,stepsIn_wide.2 h2⟩
   |_=>exact (h:False).elim
  |halt hh w'=>
   cases hh with
   |panic v=>exact h
   |_=>exact (h:False).elim
 ·exact absurd h.2 hQ
theorem V5 (hQ:¬LetsOut Q):∀(os:List Oper) (a:Act) (w:World),wpList P ops Q os a w→wpListIn Fence.wide 0 P ops Q os a w
 |[],_,_,h=>h
 | o :: os, a, w, h => by
  unfold wpList at h
  unfold wpListIn
  split at h
  ·rename_i hw
   rw [if_pos hw]
   exact V4 hQ (fun a w h=>V5 hQ os a w h) h
  ·rename_i hw
   rw [if_neg hw]
   exact ⟨fun _ _=>trivial,V5 hQ os _ _ h⟩
theorem qox {pre:Array Oper} (hQ:¬LetsOut Q) (K:Act→World→Prop) (os2:List Oper) (hK:∀a w,K a w→wpListIn Fence.wide 0 P ops Q os2 a w):∀(os:List Oper),(∀o∈os,o.guard=none)→∀a w,wpList P pre (Exit.then K Q) os a w→wpListIn Fence.wide 0 P ops Q (os++os2) a w
 |[],_,a,w,h=>hK a w h
 | o :: os, hg, a, w, h => by
  have h1:∀x,Region.wanted o x=true:=fun x=>by unfold Region.wanted;rw [hg o List.mem_cons_self]
  unfold wpList at h
  rw [if_pos (h1 _)] at h
  show if Region.wanted o (yielded ops a.tmps)=true then _ else _
  rw [if_pos (h1 _)]
  have h2:=V4 (Q:=Exit.then K Q) (K':=wpListIn Fence.wide 0 P ops Q (os++os2)) (fun ⟨a,w,h⟩=>hQ ⟨a,w,h⟩) (fun a w h=>qox hQ K os2 hK os (fun o ho=>hg o (List.mem_cons_of_mem _ ho)) a w h) h
  refine ⟨h2.1,?_⟩
  have h3:=h2.2
  generalize (o.semAt Fence.wide.round a.eval).run P w=r at h3
  cases r with
  | ok x w' =>
   cases x with
   |enter f args=>
    refine ⟨h3.1,h3.2.mono ?_⟩
    intro e w'' he
    cases e with
    |returned v=>exact he
    |panicked c=>exact he
    |outgrown=>exact he
   |round l f tmps assign body=>
    refine ⟨h3.1,h3.2.mono ?_⟩
    intro e w'' he
    cases e with
    |returned v=>exact he
    |panicked c=>exact he
    |outgrown=>exact he
   |_=>exact h3
  |halt hh w'=>
   cases hh with
   |panic v=>exact h3
   |_=>exact h3
theorem qic {id i:Nat} (h:qk P (ops.toList.take i).toArray (Exit.then (fun a w=>∃o,ops[i]?=some o∧o.guard=none∧o.wpIn Fence.wide 0 P a w (wpListIn Fence.wide 0 P ops Q (ops.toList.drop (i+1))) Q) Q) 0 a w) (hg:((ops.toList.take i).all fun o=>o.guard.isNone)=true:=by kernel_rfl) (hQ:¬LetsOut Q:=by intro ⟨_,_,h⟩;obtain ⟨_,h,_⟩:=h;cases h):(Code.region id ops false).wp P Q a w:=by
 refine wpIn_wide.1 (wpIn_region_list (n:=0) ?_)
 have h0:wpList P (ops.toList.take i).toArray (Exit.then (fun a w=>∃o,ops[i]?=some o∧o.guard=none∧o.wpIn Fence.wide 0 P a w (wpListIn Fence.wide 0 P ops Q (ops.toList.drop (i+1))) Q) Q) (ops.toList.take i) a w:=by simpa [qk] using h
 have h1:=qox (ops:=ops) hQ _ (ops.toList.drop i) (fun a w ⟨o,ho,hn,h⟩=>by
  obtain ⟨hl,he⟩:=Array.getElem?_eq_some_iff.1 ho
  rw [List.drop_eq_getElem_cons (by simpa using hl),Array.getElem_toList,he]
  unfold wpListIn
  rw [if_pos (by unfold Region.wanted;rw [hn])]
  exact h) (ops.toList.take i) (fun o ho=>by
  have:=List.all_eq_true.1 hg o ho
  simpa using this) a w h0
 rwa [List.take_append_drop] at h1
theorem Mem.Fb {r:Fact} {es F:List Fact} (h:Mem W w (r::(es++F))):Mem W w (r::(F++es)):=h.perm (List.Perm.cons _ List.perm_append_comm)
theorem Mem.zI {es F:List Fact} (h:Mem W w (F++es)):Mem W w (es++F):=h.perm List.perm_append_comm
theorem Mem.SG (es:List Fact) {F:List Fact} (h:Mem W w (es++F)):Mem W w F:=h.uW (List.sublist_append_right es F)
theorem Dv (Z:Fr a n D σ) {fo:Operand} {xs:Array Operand} {ts:Array TypeId} {vs:List Value} {R:Ending→World→Prop} (ho:ops[i]?=some o) (hn:o.guard=none) (hop:o.op= .call {callee:= .value fo,args:=xs,argTypes:=ts}) (hfo:look σ fo=some (.func (.yield l) #[] #[])) (hv:looks σ xs.toList=some vs) (hd:o.dst=some d) (hdn:d<n)
  (hy:YieldAt Fence.wide 0 P l vs.toArray w R) (hR:∀e w',R e w'→∃v,e= .returned v) (k:∀v w' a',R (.returned v) w'→Fr a' n D ((d,v)::σ)→qk P ops Q (i+1) a' w') (hQ:¬LetsOut Q:=by intro ⟨_,_,h⟩;obtain ⟨_,h,_⟩:=h;cases h):
  ∃o,ops[i]?=some o∧o.guard=none∧o.wpIn Fence.wide 0 P a w (wpListIn Fence.wide 0 P ops Q (ops.toList.drop (i+1))) Q:=by
 refine ⟨o,ho,hn,fun _ _=>trivial,?_⟩
 have e1:xs.map a.eval=vs.toArray:=by
  have:=G5 Z hv
  rw [←this,←Array.toList_map,Array.toArray_toList]
 obtain ⟨fn,tmps,assign,body,h1,h2⟩:=hy
 rw [show Fence.wide.round=none from rfl,Oper.semAt_none]
 unfold execOp
 simp only [hop,resolve,Z.eval hfo,Deferred.ofValue,invoke,Sem.run_bind,Sem.run_pure,Result.andThen_ok]
 have e2:(#[]:Array Value)++Array.map a.eval xs++ #[]=vs.toArray:=by simp [e1]
 show Oper.uponIn Fence.wide 0 P o a _ Q ((Instr.yield l (#[]++Array.map a.eval xs++ #[])).run P w)
 rw [e2,h1]
 refine ⟨fun h=>by simp [Fence.wide] at h,h2.mono ?_⟩
 intro e w' he
 obtain ⟨v,rfl⟩:=hR e w' he
 show wpListIn Fence.wide 0 P ops Q (ops.toList.drop (i+1)) (a.put o.dst v) w'
 rw [hd]
 exact V5 hQ _ _ _ (k v w' _ he (Z.put hdn v))
theorem V6 {g:Operand} {ps:Array Tmp} {assign body:Code} {gf:Nat} {caps:List Value} (Z:Fr a n [] σ) (E:Mem W w fs) (J:List Fact→Prop) (X:Code→List Fact→Prop) (hg:look σ g=some (.func (.func gf) #[] caps.toArray)) (hcl:callable P gf=true)
  (hit : ∀ (l B : Nat) (rec : LoopState → Option Code → Loop) (w1 : World), (∃ fn tmps, rec = yP fn tmps ps assign body B ∧ Fr { tmps := tmps, defers := [] } n [] σ) → Mem W w1 (.obj l (.loop (rec .ready none)) :: .obj B (.deferred (some [])) :: fs) →
   Calls P gf (.func (.yield l) #[] #[]::caps).toArray w1 fun r w'=>∃v,r= .returned v∧((∃F,J F∧Mem W w' (.obj l (.loop (rec .ready none)):: .obj B (.deferred (some []))::F))∨∃c F,X c F∧Mem W w' (.obj l (.loop (rec .done (some c))):: .obj B (.deferred (some []))::F)))
  (hdone:∀(B:Nat) (a':Act) (w':World) (F:List Fact),J F→Fr a' n [{target:= .collected B,args:= #[]}] σ→Mem W w' (.obj B (.deferred (some []))::F)→Q .normal a' w')
  (hstop:∀(c:Code) (B:Nat) (a':Act) (w':World) (F:List Fact),X c F→Fr a' n [{target:= .collected B,args:= #[]}] σ→Mem W w' (.obj B (.deferred (some []))::F)→c.wp P Q a' w'):
  (Code.rangeFunc g ps assign body).wp P Q a w:=by
 refine (wpIn_wide (n:=0)).1 (wpIn_rangeFunc ?_)
 intro fn _
 show ∃l mark w₁ d w₁' f args w₂,(Instr.enterLoop fn a.tmps ps assign body none).run P w= .ok (l,mark) w₁∧_
 have h1:=(E.oh (.deferred (some []))).oh (.loop (yP fn a.tmps ps assign body w.heap.size .ready none))
 rw [World.size_alloc] at h1
 have HF1:Fr {tmps:=a.tmps,defers:=[]} n [] σ:=⟨Z.size,rfl,Z.slot⟩
 have HF2:Fr {a with defers:={target:= .collected w.heap.size,args:= #[]}::a.defers} n [{target:= .collected w.heap.size,args:= #[]}] σ:=⟨Z.size,by show _::a.defers=_;rw [Z.defers],Z.slot⟩
 have hE:(Instr.enterLoop fn a.tmps ps assign body none).run P w= .ok (w.heap.size+1,[{target:= .collected w.heap.size,args:= #[]}]) ((w.alloc (.deferred (some []))).alloc (.loop (yP fn a.tmps ps assign body w.heap.size .ready none))):=run_enterLoop_outer _ _ _ _ _
 generalize (w.alloc (.deferred (some []))).alloc (.loop (yP fn a.tmps ps assign body w.heap.size .ready none))=W1 at h1 hE
 refine ⟨w.heap.size+1,[{target:= .collected w.heap.size,args:= #[]}],W1,{target:= .fn (.func gf) caps.toArray,args:= #[.func (.yield (w.heap.size+1)) #[] #[]]},W1,gf,#[.func (.yield (w.heap.size+1)) #[] #[]]++caps.toArray,W1,hE,?_,fun _ _=>trivial,?_,fun h=>by simp [Fence.wide] at h,?_⟩
 ·simp only [resolve,Z.eval hg]
  simp [go_sem]
 ·simp [invoke,go_sem,KU hcl]
 ·have e:(#[.func (.yield (w.heap.size+1)) #[] #[]]++caps.toArray:Array Value)=(.func (.yield (w.heap.size+1)) #[] #[]::caps).toArray:=by simp
  rw [e]
  refine callsIn_wide.2 ((hit _ _ _ _ ⟨fn,a.tmps,rfl,HF1⟩ h1).mono ?_)
  rintro e w' ⟨v,rfl,(⟨F,hJ,hM⟩|⟨c,F,hX,hM⟩)⟩
  ·have h2:=run_endLoop (P:=P) (hM.jm (i:=0) rfl) (by simp [yP])
   exact ⟨none,_,h2,hdone _ _ _ F hJ HF2 (hM.setObj (i:=0) rfl _).tail⟩
  ·have h2:=run_endLoop (P:=P) (hM.jm (i:=0) rfl) (by simp [yP])
   exact ⟨some c,_,h2,wpIn_wide.2 (hstop c _ _ _ F hX HF2 (hM.setObj (i:=0) rfl _).tail)⟩
def zJ (P:Program) (fn:Func) (R:Ending→World→Prop):Exit→Act→World→Prop
 | .normal,a,w| .ret,a,w=>LeavesInM Fence.wide 0 P fn a.tmps R a.defers .returning w
 |_,_,_=>False
theorem V7 {f N:Nat} {fn:Func} {c:Code} {vs:List Value} {R:Ending→World→Prop} (hf:P.funcs[f]?=some fn) (hb:fn.body=some c) (hn:fn.ntmps=N) (hl:decide (vs.length≤N)=true) {σ0:List (Nat×Value)} (h0:EZ 0 vs=σ0)
  (k:∀a,Fr a N [] σ0→c.wp P (zJ P fn R) a w):Calls P f vs.toArray w R:=by
 subst h0
 rw [decide_eq_true_eq] at hl
 refine (callsIn_wide (n:=0)).1 (callsIn_of_wp_marks hf hb trivial (wpIn_wide.2 (Code.wp_mono (fun e a w h=>by cases e<;>first|exact h|exact (h:False).elim) (k _ ⟨by simp [hn];omega,rfl,fun t v hv=>?_⟩))) rfl)
 obtain ⟨_,h1⟩:=ML vs 0 t v hv
 rw [Nat.sub_zero] at h1
 have hlt:=(List.getElem?_eq_some_iff.1 h1).1
 simp only [Array.getD_eq_getD_getElem?,Array.getElem?_append,List.size_toArray,if_pos hlt]
 simp [h1]
section
variable {fn:Func} {R:Ending→World→Prop}
theorem q8l (h:bodyPost P fn R .ret a w):zJ P fn R .ret a w:=by
 obtain ⟨hd,v,hr,hR⟩:=h
 show LeavesInM Fence.wide 0 P fn a.tmps R a.defers .returning w
 rw [hd]
 exact ⟨v,hr,hR⟩
theorem SH {B:Nat} (Z:Fr a n [{target:= .collected B,args:= #[]}] σ) (E:Mem W w fs) (hi:fs[i]?=some (.obj B (.deferred (some [])))) (h:∀(a':Act) (w':World),Fr a' n [] σ→Mem W w' (fs.set i (.obj B (.deferred none)))→bodyPost P fn R .ret a' w'):zJ P fn R .ret a w:=by
 obtain ⟨_,v,hr,hR⟩:=h {tmps:=a.tmps,defers:=[]} _ ⟨Z.size,rfl,Z.slot⟩ (E.setObj hi (.deferred none))
 show LeavesInM Fence.wide 0 P fn a.tmps R a.defers .returning w
 rw [Z.defers]
 exact ⟨fun h=>(nomatch h),.inl ⟨B,_,rfl,run_takeDeferred (E.jm hi),v,hr,hR⟩⟩
theorem M5 (hr:fn.results= #[]) (Z:Fr a n [] σ) (hR:R (.returned (.tuple #[])) w):bodyPost P fn R .ret a w:=
 bodyPost_ret (v:= .tuple #[]) (by
  rw [G6,hr]
  simp) Z.defers hR
theorem nA (hr:fn.results= #[]) (Z:Fr a n [] σ) (hR:R (.returned (.tuple #[])) w):bodyPost P fn R .normal a w:=M5 hr Z hR
end
end
section
variable {P:Program} {Q:Exit→Act→World→Prop} {a:Act} {W w:World} {n d:Nat} {D:List Deferred} {σ:List (Nat×Value)} {o:Oper} {v:Value} {K:Act→World→Prop} {fs:List Fact}
def uM (t:TypeId) (k:Int):List PanicEntry:=[{v:= .iface t (.int .i64 k),recovered:=false}]
def l7 (W:World) (fs:List Fact) (ch:List PanicEntry) (r:Ending) (w':World):Prop:=r= .panicked ch∧Mem W w' fs
theorem rR (Z:Fr a n D σ) (vs:List Value) {f:FuncId} {xs:Array Operand} {ts:Array TypeId} {ch:List PanicEntry} (hop:o.op= .call {callee:= .value (.func f),args:=xs,argTypes:=ts})
  (hC:Calls P f vs.toArray w (l7 W fs ch)) (k:∀w',Mem W w' fs→Q (.panic ch) a w') (hv:looks σ xs.toList=some vs:=by kernel_rfl) (hf:callable P f=true:=by kernel_rfl):o.wp P a w K Q:=by
 have e1:xs.map a.eval=vs.toArray:=by
  have:=G5 Z hv
  rw [←this,←Array.toList_map,Array.toArray_toList]
 unfold Oper.wp execOp
 simp only [hop,resolve,Act.eval,Deferred.ofValue,invoke,Sem.run_bind,Sem.run_pure,Result.andThen_ok]
 have e3: #[]++Array.map a.eval xs++ #[]=vs.toArray:=by simp [e1]
 show Oper.upon P o a K Q (((callFunc f (#[]++Array.map a.eval xs++ #[])).run P w))
 rw [e3,KU hf,Oper.upon_enter]
 exact hC.mono fun e w' ⟨h1,h2⟩=>by subst h1;exact k w' h2
theorem zbc (Z:Fr a n D σ) {x:Operand} {t:TypeId} {u:Value} (hop:o.op= .panic x) (hx:look σ x=some (.iface t u)) (k:Q (.panic [{v:= .iface t u,recovered:=false}]) a w):o.wp P a w K Q:=by
 unfold Oper.wp execOp
 simp only [hop,Z.eval hx,Sem.run_bind]
 exact k
def LC (P:Program) (t:TypeId):Bool:=match P.underlying t with
 |some (.interface _)=>false
 |some _=>true
 |none=>false
theorem Yl.makeInterface {S:World→Prop} {x:Operand} {t:TypeId} (hop:o.op= .makeInterface t x) (hx:look σ x=some v) (ht:LC P t=true:=by kernel_rfl):Yl P S σ o (.iface t v):=fun a n D Z w hS=>by
 unfold LC at ht
 cases hu:P.underlying t with
 |none=>rw [hu] at ht;cases ht
 |some d=>
  rw [hu] at ht
  unfold execOp
  simp only [hop,Z.eval hx,Instr.makeInterface,Sem.run_bind,run_underlying hu,Result.andThen_ok]
  cases d<;>first|rfl|cases ht
def isIface (P:Program) (t:TypeId):Bool:=match P.underlying t with
 |some (.interface _)=>true
 |_=>false
theorem ql4 {t:TypeId} (h:isIface P t=true):∃ms,P.underlying t=some (.interface ms):=by
 unfold isIface at h
 split at h
 ·rename_i ms hu;exact ⟨ms,hu⟩
 ·cases h
theorem qsk {t tv:TypeId} {v:Value} (ht:isIface P t=true) (w:World):(Op.equal t (.iface tv v) .nilIface).run P w= .ok false w:=by
 obtain ⟨ms,hu⟩:=ql4 ht
 have h:∀d,(Op.equalIn (d+1) t (.iface tv v) .nilIface).run P w= .ok false w:=fun d=>by
  rw [Op.equalIn]
  simp only [Sem.run_bind,run_underlying hu,Result.andThen_ok,Sem.run_pure]
 exact h 9999
theorem q1z {t:TypeId} (ht:isIface P t=true) (w:World):(Op.equal t .nilIface .nilIface).run P w= .ok true w:=by
 obtain ⟨ms,hu⟩:=ql4 ht
 have h:∀d,(Op.equalIn (d+1) t .nilIface .nilIface).run P w= .ok true w:=fun d=>by
  rw [Op.equalIn]
  simp only [Sem.run_bind,run_underlying hu,Result.andThen_ok,Sem.run_pure]
 exact h 9999
theorem Yl.zc4 {S:World→Prop} {x y:Operand} {t u tv:TypeId} (hop:o.op= .binOp .neq t x y u) (hx:look σ x=some (.iface tv v)) (hy:look σ y=some .nilIface) (ht:isIface P t=true:=by kernel_rfl):Yl P S σ o (.bool true):=fun a n D Z w hS=>by
 unfold execOp
 simp only [hop,Z.eval hx,Z.eval hy,Sem.run_bind,KO .neq t x y (a:= .iface tv v) rfl,Result.andThen_ok,binOp,qsk ht,Sem.run_pure]
 rfl
theorem Yl.zfl {S:World→Prop} {x:Operand} {t u:TypeId} (hop:o.op= .binOp .neq t x (.const .nilIface) u) (hx:look σ x=some .nilIface) (ht:isIface P t=true:=by kernel_rfl):Yl P S σ o (.bool false):=fun a n D Z w hS=>by
 have e1:a.eval (.const .nilIface)= .nilIface:=rfl
 have e2:(eqGuard .neq t x (.const .nilIface) .nilIface .nilIface).run P w= .ok () w:=by
  unfold eqGuard
  simp
 unfold execOp
 simp only [hop,Z.eval hx,e1,Sem.run_bind,e2,Result.andThen_ok,binOp,q1z ht,Sem.run_pure]
 rfl
theorem qp5 {t:TypeId} (h:LC P t=true):∃d,P.underlying t=some d∧∀ms,d≠ .interface ms:=by
 unfold LC at h
 split at h
 ·cases h
 ·rename_i d hn hu;exact ⟨d,hu,fun ms e=>hn ms e⟩
 ·cases h
theorem Yl.q8c {S:World→Prop} {x:Operand} {xt t:TypeId} (hop:o.op= .typeAssert x xt t true) (hx:look σ x=some (.iface t v)) (ht:LC P t=true:=by kernel_rfl):Yl P S σ o (.tuple #[v,.bool true]):=fun a n D Z w hS=>by
 obtain ⟨d,hu,hd⟩:=qp5 ht
 unfold execOp
 simp only [hop,Z.eval hx,Instr.typeAssert,Sem.run_bind,run_underlying hu,Result.andThen_ok]
 cases d<;>first|(exact absurd rfl (hd _))|simp
theorem Yl.q4u {S:World→Prop} {x:Operand} {xt t:TypeId} {z:Value} (hop:o.op= .typeAssert x xt t true) (hx:look σ x=some .nilIface) (hz:(P.info? t).bind (·.zero)=some z) (ht:LC P t=true:=by kernel_rfl):Yl P S σ o (.tuple #[z,.bool false]):=fun a n D Z w hS=>by
 obtain ⟨d,hu,hd⟩:=qp5 ht
 obtain ⟨i,hi,hz2⟩:=Option.bind_eq_some_iff.1 hz
 unfold execOp
 simp only [hop,Z.eval hx,Instr.typeAssert,Sem.run_bind,run_underlying hu,Result.andThen_ok]
 cases d<;>first|(exact absurd rfl (hd _))|rfl|simp [zeroValue,typeInfo,hi,hz2]
def OI (Q:Exit→Act→World→Prop):Exit→Act→World→Prop
 | .normal,a,w=>Q .normal a w
 |_,_,_=>False
theorem zbd {c:Code} (h:c.wp P (OI Q) a w):c.wp P Q a w:=fun b k cs=>by
 obtain ⟨e,a',w',hq,harr⟩:=h b k cs
 cases e with
 |normal=>exact ⟨_,a',w',hq,harr⟩
 |_=>exact hq.elim
theorem LD {p:Prop} (Z:Fr a n [] σ) (h:p):a.defers=[]∧p:=⟨Z.defers,h⟩
theorem zbe (Z:Fr a n D σ) {fo:Operand} {f:FuncId} {caps:List Value} {ts:Array TypeId} (hop:o.op= .defer {callee:= .value fo,args:= #[],argTypes:=ts}) (hfo:look σ fo=some (.func (.func f) #[] caps.toArray)) (hd:o.dst=none)
  (k:∀a',Fr a' n ({target:= .fn (.func f) caps.toArray,args:= #[]}::D) σ→K a' w):o.wp P a w K Q:=by
 unfold Oper.wp execOp
 simp only [hop,resolve,Z.eval hfo,Deferred.ofValue,Sem.run_bind,Sem.run_pure,Result.andThen_ok,List.map_toArray,List.map_nil,Oper.upon_defer,hd]
 exact k _ ⟨Z.size,by show _::a.defers=_;rw [Z.defers];rfl,Z.slot⟩
theorem qp6 {f N:Nat} {fn:Func} {c:Code} {vs:List Value} {R:Ending→World→Prop} (hf:P.funcs[f]?=some fn) (hb:fn.body=some c) (hn:fn.ntmps=N) (hl:decide (vs.length≤N)=true) {σ0:List (Nat×Value)} (h0:EZ 0 vs=σ0)
  (k:∀a,Fr a N [] σ0→c.wp P (bodyPostD P fn R) a w):Calls P f vs.toArray w R:=by
 subst h0
 rw [decide_eq_true_eq] at hl
 refine calls_of_wp_defers hf hb (k _ ⟨by simp [hn];omega,rfl,fun t v hv=>?_⟩)
 obtain ⟨_,h1⟩:=ML vs 0 t v hv
 rw [Nat.sub_zero] at h1
 have hlt:=(List.getElem?_eq_some_iff.1 h1).1
 simp only [Array.getD_eq_getD_getElem?,Array.getElem?_append,List.size_toArray,if_pos hlt]
 simp [h1]
def rT (W:World) (fs:List Fact) (e:Ending) (u:FrameMode) (w':World):Prop:=e= .returned (.tuple #[])∧settle u= .returning∧Mem W w' fs
theorem qxe {fn:Func} {R:Ending→World→Prop} {ch:List PanicEntry} {f:FuncId} {caps:List Value} {r:ResultVar} (Z:Fr a n [{target:= .fn (.func f) caps.toArray,args:= #[]}] σ) (hc:callable P f=true) (hC:CallsD P f caps.toArray (.panicking ch) w (rT W fs)) (hr:fn.results= #[r])
  (k:∀w',Mem W w' fs→nY P a w' r v∧R (.returned v) w'):bodyPostD P fn R (.panic ch) a w:=by
 show Leaves P fn a.tmps R a.defers (.panicking ch) w
 rw [Z.defers]
 refine leaves_cons (f:=f) (args:=caps.toArray) (by simp) (by simp only [invoke];rw [show #[]++caps.toArray=caps.toArray by simp];exact KU hc _ _) (hC.mono fun e u w' ⟨h1,h2,h3⟩=>?_)
 subst h1
 show Leaves P fn a.tmps R [] (settle u) w'
 rw [h2]
 obtain ⟨h4,h5⟩:=k w' h3
 unfold nY at h4
 refine ⟨v,?_,h5⟩
 rw [G6,hr]
 generalize zD a.tmps=g at*
 simp [h4]
theorem q10 {fn:Func} {R:Ending→World→Prop} {f:FuncId} {caps:List Value} {r:ResultVar} (Z:Fr a n [{target:= .fn (.func f) caps.toArray,args:= #[]}] σ) (hc:callable P f=true) (hC:CallsD P f caps.toArray .returning w (rT W fs)) (hr:fn.results= #[r])
  (k:∀w',Mem W w' fs→nY P a w' r v∧R (.returned v) w'):bodyPostD P fn R .ret a w:=by
 show Leaves P fn a.tmps R a.defers .returning w
 rw [Z.defers]
 refine leaves_cons (f:=f) (args:=caps.toArray) (by simp) (by simp only [invoke];rw [show #[]++caps.toArray=caps.toArray by simp];exact KU hc _ _) (hC.mono fun e u w' ⟨h1,h2,h3⟩=>?_)
 subst h1
 show Leaves P fn a.tmps R [] (settle u) w'
 rw [h2]
 obtain ⟨h4,h5⟩:=k w' h3
 unfold nY at h4
 refine ⟨v,?_,h5⟩
 rw [G6,hr]
 generalize zD a.tmps=g at*
 simp [h4]
theorem qu3 {ops:Array Oper} (h:o.guard=none):Region.wanted o (yielded ops a.tmps)=true:=by unfold Region.wanted;rw [h]
theorem qii {ops:Array Oper} {rest:List Nat} {i:Nat} {QS:Exit→Act→List Frame→World→Prop} {cs cs':List Frame} {ts:Array TypeId} (Z:Fr a n D σ) (ho:ops[i]?=some o) (hop:o.op= .call {callee:= .builtin .recover,args:= #[],argTypes:=ts}) (hg:o.guard=none) (hd:o.dst=some d) (hdn:d<n)
  (hcs:(recoverD cs=some (v,cs'))∨(recoverD cs=none∧v= .nilIface∧cs'=cs)) (k:∀a',Fr a' n D ((d,v)::σ)→wpOpsS P ops QS rest a' cs' w):wpOpsS P ops QS (i::rest) a cs w:=by
 have hrun:(execOp a.eval o).run P w= .ok .recover w:=by
  unfold execOp
  simp [hop,resolve,invoke,builtin]
 simp only [wpOpsS,ho,qu3 hg,if_true,hrun]
 rcases hcs with h|⟨h,rfl,rfl⟩
 ·simp only [h,hd]
  exact k _ (Z.put hdn _)
 ·simp only [h,hd]
  exact k _ (Z.put hdn _)
theorem qp7 {ops:Array Oper} {rest:List Nat} {i:Nat} {QS:Exit→Act→List Frame→World→Prop} {cs:List Frame} (Z:Fr a n D σ) (ho:ops[i]?=some o) (hv:xM P σ o.op=some v) (hg:o.guard=none) (hd:o.dst=some d) (hdn:d<n)
  (k:∀a',Fr a' n D ((d,v)::σ)→wpOpsS P ops QS rest a' cs w):wpOpsS P ops QS (i::rest) a cs w:=by
 have hrun:=qi5 Z hv w
 simp only [wpOpsS,ho,qu3 hg,if_true,hrun,Oper.upon_value,hd]
 exact k _ (Z.put hdn _)
theorem qij {f N:Nat} {fn:Func} {c:Code} {vs:List Value} {u:FrameMode} {R:Ending→FrameMode→World→Prop} (hf:P.funcs[f]?=some fn) (hb:fn.body=some c) (hn:fn.ntmps=N) (hl:decide (vs.length≤N)=true) {σ0:List (Nat×Value)} (h0:EZ 0 vs=σ0)
  (k:∀(c₀:Frame) (cs:List Frame) a,c₀.mode=u→Fr a N [] σ0→c.wpS P (bodyPostS P fn c₀ cs R) a (c₀::cs) w):CallsD P f vs.toArray u w R:=by
 subst h0
 rw [decide_eq_true_eq] at hl
 refine callsD_of_wpS hf hb fun c₀ cs hu=>k c₀ cs _ hu ⟨by simp [hn];omega,rfl,fun t v hv=>?_⟩
 obtain ⟨_,h1⟩:=ML vs 0 t v hv
 rw [Nat.sub_zero] at h1
 have hlt:=(List.getElem?_eq_some_iff.1 h1).1
 simp only [Array.getD_eq_getD_getElem?,Array.getElem?_append,List.size_toArray,if_pos hlt]
 simp [h1]
theorem qp8 {fn:Func} {c₀:Frame} {cs:List Frame} {u:FrameMode} {R:Ending→FrameMode→World→Prop} (hr:fn.results= #[]) (Z:Fr a n [] σ) (h:R (.returned (.tuple #[])) u w):bodyPostS P fn c₀ cs R .normal a ({c₀ with mode:=u}::cs) w:=
 ⟨Z.defers,u,rfl,_,(by rw [G6,hr];simp),h⟩
end
section
variable {P:Program} {W w:World} {l n:Nat} {σ:List (Nat×Value)}
theorem Fr.Xf {tmps:Array Value} {p1:Nat} {v1:Value} (h:Fr {tmps:=tmps,defers:=[]} n [] σ) (h1:p1<n):Fr {tmps:=(#[p1].zip #[v1]).foldl (fun t (p,v)=>t.setIfInBounds p v) tmps,defers:=[]} n [] ((p1,v1)::σ):=by
 have h3:=h.put h1 v1
 simpa [Act.put] using h3
theorem qpj {rec:LoopState→Option Code→Loop} {assign body:Code} {B p1:Nat} {v1:Value} {F:List Fact} {R:Ending→World→Prop} (hrec:∃fn tmps,rec=yP fn tmps #[p1] assign body B∧Fr {tmps:=tmps,defers:=[]} n [] σ) (E:Mem W w (.obj l (.loop (rec .ready none))::F)) (h1:p1<n)
  (h:∀a,Fr a n [] ((p1,v1)::σ)→assign.wpIn (Fence.wide.inRound l) 0 P (Exit.then (fun a1 w1=>∃F1,Mem W w1 (.obj l (.loop (rec .ready none))::F1)∧∀w2,Mem W w2 (.obj l (.loop (rec .busy none))::F1)→body.wpIn (Fence.wide.inRound l) 0 P (roundEnd W l rec R) a1 w2) (fun _ _ _=>False)) a w):YieldAt Fence.wide 0 P l #[v1] w R:=by
 obtain ⟨fn,tmps,rfl,Z⟩:=hrec
 exact qjg E rfl (h _ (Z.Xf h1))
def Xg (W:World) (fr:List Fact) (J:List Fact→Prop) (e:Ending) (w':World):Prop:=∃F',Mem W w' (F'++fr)∧e= .returned (.bool true)∧J F'
theorem zk {W:World} {fr:List Fact} {J:List Fact→Prop}:∀(e:Ending) (w':World),Xg W fr J e w'→∃v,e= .returned v
 |_,_,⟨_,_,h,_⟩=>⟨_,h⟩
def q0s (W:World) (J:List Fact→Prop) (r:Ending) (w':World):Prop:=∃v,r= .returned v∧∃F',Mem W w' F'∧J F'
def qud (P:Program) (W:World) (lp n:Nat) (Inv:Nat→List Fact→Prop):Prop:=
 ∀(i:Nat) (F fr:List Fact) (w:World) (x:Int),Inv i F→i<n→Mem W w (F++fr)→YieldAt Fence.wide 0 P lp #[.int .i64 x] w (Xg W fr (Inv (i+1)))
end
section
variable {P:Program} {ops:Array Oper} {Q:Exit→Act→World→Prop} {a:Act} {w W:World} {n i:Nat} {K:Act→World→Prop} {md:Region.Mode}
def AQ:Nat→List (List Bool)
 |0=>[[]]
 |n+1=>(AQ n).flatMap fun l=>[true::l,false::l]
theorem qvh:∀(l:List Bool),l∈AQ l.length
 |[]=>by simp [AQ]
 |b::l=>by
  rw [List.length_cons,AQ,List.mem_flatMap]
  exact ⟨l,qvh l,by cases b<;>simp⟩
def Uh (md:Region.Mode) (ops:Array Oper) (l:List Bool):Bool:=(List.range l.length).all fun k=> !l.getD k false||((ops[k]?).map (·.after.all fun e=> !Region.binds md e||l.getD e.on false)).getD false
def qJ (md:Region.Mode) (ops:Array Oper) (i:Nat):Bool:=
 ((AQ i).all fun l=> !Uh md ops l||(((Region.ready md (ops.toList.take i).toArray l.toArray).all fun j=>Uh md ops (l.set j true))&& (((Region.ready md (ops.toList.take i).toArray l.toArray).isEmpty==l.all id)&& (l.all id||(Region.ready md ops (l++List.replicate (ops.size-i) false).toArray==Region.ready md (ops.toList.take i).toArray l.toArray)))))
 && (Uh md ops (List.replicate i false)&& (((List.range (ops.size-i)).all fun j=>Region.ready md ops (List.replicate (i+j) true++List.replicate (ops.size-i-j) false).toArray==[i+j])
 && ((Region.ready md ops (List.replicate ops.size true).toArray).isEmpty&& (decide (i≤ops.size)&& ((ops.toList.take i).all fun o=>o.guard.isNone)))))
theorem zen (j d:Nat):(List.replicate j true++List.replicate (d+1) false).toArray.setIfInBounds j true=(List.replicate (j+1) true++List.replicate d false).toArray:=by
 rw [List.setIfInBounds_toArray]
 congr 1
 rw [List.set_append_right _ _ (by simp),List.length_replicate,Nat.sub_self,List.replicate_succ,List.set_cons_zero,List.replicate_succ',List.append_assoc]
 rfl
theorem q9g {F:Fence} (h1:∀j,i≤j→j<ops.size→Region.ready md ops (List.replicate j true++List.replicate (ops.size-j) false).toArray=[j]) (h2:Region.ready md ops (List.replicate ops.size true).toArray=[]):
  ∀(d j:Nat),j+d=ops.size→i≤j→∀a w,wpListIn F n P ops Q (ops.toList.drop j) a w→wpAnyIn F n P md ops Q d (List.replicate j true++List.replicate d false).toArray a w
 |0,j,hj,_,a,w,h=>by
  obtain rfl:j=ops.size:=by omega
  rw [List.drop_of_length_le (by simp)] at h
  refine ⟨?_,h⟩
  rw [List.replicate_zero,List.append_nil]
  exact h2
 | d + 1, j, hj, hi, a, w, h => by
  have hlt:j<ops.size:=by omega
  have hr:=h1 j hi hlt
  rw [show ops.size-j=d+1 by omega] at hr
  refine ⟨fun h0=>(by rw [hr] at h0;cases h0),fun q hq=>?_⟩
  rw [hr,List.mem_singleton] at hq
  subst hq
  rw [List.drop_eq_getElem_cons (by simpa using hlt)] at h
  have hk:=q9g (F:=F) h1 h2 d (q+1) om om
  rw [zen]
  unfold wpOpIn
  rw [Array.getElem?_eq_getElem hlt]
  unfold wpListIn at h
  simp only [Array.getElem_toList] at h⊢
  split at h
  ·rename_i hw
   rw [if_pos hw]
   exact Oper.wpIn_mono hk h
  ·rename_i hw
   rw [if_neg hw]
   exact ⟨h.1,hk _ _ h.2⟩
theorem qqg:∀{l:List Bool} {j:Nat},l[j]?=some false→(l.set j true).count false+1=l.count false
 |[],_,h=>by simp at h
 |b::l,0,h=>by
  simp at h
  subst h
  simp
 |b::l,j+1,h=>by
  have:=qqg (l:=l) (j:=j) (by simpa using h)
  rw [List.set_cons_succ,List.count_cons,List.count_cons]
  omega
theorem qqh {l:List Bool}:l.count false=0↔l.all id=true:=by
 rw [List.count_eq_zero,List.all_eq_true]
 constructor
 ·intro h x hx
  cases x with
  |true=>rfl
  |false=>exact absurd hx h
 ·intro h hx
  have:=h _ hx
  cases this
theorem zeo (hp:qJ md ops i=true) (hQ:¬LetsOut Q) (hK:∀a w,K a w→wpListIn Fence.wide 0 P ops Q (ops.toList.drop i) a w):
  ∀(fuel:Nat) (l:List Bool),l.length=i→l.count false=fuel→Uh md ops l=true→∀a w,wpAny P md (ops.toList.take i).toArray (Exit.then K Q) fuel l.toArray a w→wpAnyIn Fence.wide 0 P md ops Q (fuel+(ops.size-i)) (l++List.replicate (ops.size-i) false).toArray a w:=by
 unfold qJ at hp
 simp only [Bool.and_eq_true,decide_eq_true_eq] at hp
 obtain ⟨hA,_,hB,hC,hi,hg⟩:=hp
 have hlen:(ops.toList.take i).length=i:=by rw [List.length_take];simp;omega
 have hT:=q9g (P:=P) (Q:=Q) (F:=Fence.wide) (n:=0) (md:=md) (ops:=ops) (i:=i) (fun j h1 h2=>by
  have h3:=List.all_eq_true.1 hB (j-i) (List.mem_range.2 om)
  rw [show i+(j-i)=j by omega,show ops.size-i- (j-i)=ops.size-j by omega] at h3
  exact eq_of_beq h3) (List.isEmpty_iff.1 hC)
 intro fuel
 induction fuel with
 |zero=>
  intro l hl hc hcl a w h
  have ha:=qqh.1 hc
  have he:l=List.replicate i true:=List.eq_replicate_iff.2 ⟨hl,fun b hb=>List.all_eq_true.1 ha b hb⟩
  subst he
  rw [Nat.zero_add]
  exact hT _ _ om (Nat.le_refl _) _ _ (hK _ _ h.2)
 | succ fuel ih =>
  intro l hl hc hcl a w h
  have h3:=List.all_eq_true.1 hA l (by rw [←hl];exact qvh l)
  rw [hcl,Bool.not_true,Bool.false_or,Bool.and_eq_true] at h3
  have hcj:=h3.1
  replace h3:=h3.2
  have hna:l.all id=false:=by
   cases hx:l.all id with
   |false=>rfl
   |true=>rw [qqh.2 hx] at hc;omega
  rw [hna,Bool.false_or,Bool.and_eq_true] at h3
  have hr:=eq_of_beq h3.2
  have hne:=eq_of_beq h3.1
  rw [Nat.succ_add]
  refine ⟨fun h0=>(by rw [hr] at h0;rw [h0] at hne;cases hne),fun j hj=>?_⟩
  rw [hr] at hj
  have h4:=h.2 j hj
  have hcj:=List.all_eq_true.1 hcj j hj
  obtain ⟨KQ,o,ho,_⟩:=mem_ready.1 hj
  have hjl:j<i:=by
   have:=(Array.getElem?_eq_some_iff.1 ho).1
   simpa [hlen] using this
  have hlj:l[j]?=some false:=by
   have:l.toArray.getD j true=false:=KQ
   rw [Array.getD_eq_getD_getElem?,List.getElem?_toArray,List.getElem?_eq_getElem om] at this
   rw [List.getElem?_eq_getElem om]
   exact congrArg some this
  have ho2:ops[j]?=some o:=by
   rw [List.getElem?_toArray,List.getElem?_take,if_pos hjl,Array.getElem?_toList] at ho
   exact ho
  have hgo:o.guard=none:=by
   have hm:o∈ops.toList.take i:=by
    rw [List.getElem?_toArray] at ho
    exact List.mem_of_getElem? ho
   have:=List.all_eq_true.1 hg o hm
   simpa using this
  have e1:l.toArray.setIfInBounds j true=(l.set j true).toArray:=List.setIfInBounds_toArray ..
  have e2:(l++List.replicate (ops.size-i) false).toArray.setIfInBounds j true=(l.set j true++List.replicate (ops.size-i) false).toArray:=by
   rw [List.setIfInBounds_toArray,List.set_append_left _ _ om]
  rw [e1] at h4
  rw [e2]
  have hk:=ih (l.set j true) (by rw [List.length_set];exact hl) (by have:=qqg hlj;omega) hcj
  have hw:∀x,Region.wanted o x=true:=fun x=>by unfold Region.wanted;rw [hgo]
  unfold wpOp at h4
  rw [ho] at h4
  simp only [hw,if_true] at h4
  unfold wpOpIn
  rw [ho2]
  simp only [hw,if_true]
  have h5:=V4 (Q:=Exit.then K Q) (fun ⟨a,w,h⟩=>hQ ⟨a,w,h⟩) hk h4
  refine ⟨h5.1,?_⟩
  have h3:=h5.2
  generalize (o.semAt Fence.wide.round a.eval).run P w=r at h3
  cases r with
  | ok x w' =>
   cases x with
   |enter f args=>
    refine ⟨h3.1,h3.2.mono ?_⟩
    intro e w'' he
    cases e with
    |returned v=>exact he
    |panicked c=>exact he
    |outgrown=>exact he
   |round l f tmps assign body=>
    refine ⟨h3.1,h3.2.mono ?_⟩
    intro e w'' he
    cases e with
    |returned v=>exact he
    |panicked c=>exact he
    |outgrown=>exact he
   |_=>exact h3
  |halt hh w'=>
   cases hh with
   |panic v=>exact h3
   |_=>exact h3
def YD (P:Program) (ops:Array Oper) (Q:Exit→Act→World→Prop) (i:Nat) (a:Act) (w:World):Prop:=∃o,ops[i]?=some o∧o.guard=none∧o.wpIn Fence.wide 0 P a w (wpListIn Fence.wide 0 P ops Q (ops.toList.drop (i+1))) Q
theorem q2q {id:Nat} (i:Nat) (S:World→Prop) (ex:List Nat) (h:qp P .any (ops.toList.take i).toArray (Exit.then (YD P ops Q i) Q) S ex i (Array.replicate i false) a w.drew)
  (hm:P.follows .mixedOrders=true:=by kernel_rfl) (hp:qJ .any ops i=true:=by kernel_rfl) (hQ:¬LetsOut Q:=by intro ⟨_,_,h⟩;obtain ⟨_,h,_⟩:=h;cases h):(Code.region id ops true).wp P Q a w:=by
 refine wpIn_wide.1 (wpIn_region_any (n:=0) hm ?_)
 have h1:=zeo (P:=P) (Q:=Q) (K:=YD P ops Q i) hp hQ (fun a w ⟨o,ho,hn,h⟩=>by
  obtain ⟨hl,he⟩:=Array.getElem?_eq_some_iff.1 ho
  rw [List.drop_eq_getElem_cons (by simpa using hl),Array.getElem_toList,he]
  unfold wpListIn
  rw [if_pos (by unfold Region.wanted;rw [hn])]
  exact h) i (List.replicate i false) (by simp) (by simp) (by unfold qJ at hp;simp only [Bool.and_eq_true] at hp;exact hp.2.1) a w.drew (Vt _ _ _ _ (by rw [List.toArray_replicate];exact h))
 unfold qJ at hp
 simp only [Bool.and_eq_true,decide_eq_true_eq] at hp
 obtain ⟨_,_,_,_,hi,_⟩:=hp
 rw [show i+(ops.size-i)=ops.size by omega,List.replicate_append_replicate,show i+(ops.size-i)=ops.size by omega,List.toArray_replicate] at h1
 exact h1
theorem IW {id:Nat} (i:Nat) {fs:List Fact} (E:Mem W w fs) (fs':List Fact) (m:Nat) (is ex:List Nat) (h:Mem W w.drew fs→Mem W w.drew fs'→qp P .any (ops.toList.take i).toArray (Exit.then (YD P ops Q i) Q) (fun wS=>Mem W wS fs') ex i (Array.replicate i false) a w.drew)
  (hn:is.Nodup:=by decide) (hlt:(is.all (· <m))=true:=by decide) (he:picks fs is++fs.drop m=fs':=by rfl) (hm:P.follows .mixedOrders=true:=by kernel_rfl) (hp:qJ .any ops i=true:=by kernel_rfl) (hQ:¬LetsOut Q:=by intro ⟨_,_,h⟩;obtain ⟨_,h,_⟩:=h;cases h):(Code.region id ops true).wp P Q a w:=
 q2q i _ ex (h E.drew (E.drew.q9z m is hn hlt he)) hm hp hQ
end
theorem Yl.str {S:World→Prop} {σ:List (Nat×Value)} {o:Oper} {x:Operand} {A:Option Addr} {n c:Nat} {l:List Nat} (hop:o.op= .convert 30 9 x) (hx:look σ x=some (.slice A n c)) (hr:∀w,S w→Rd w w.heap.size 1 A n (l.map B8)):Yl Tryz.prog S σ o (.string (jo l)):=fun a m D Z w hS=>by
 unfold execOp
 simp [hop,Z.eval hx,q91 (hr w hS)]
theorem mH (l:List Nat):∀u∈l.map B8,u.oneCell'=true:=by
 intro u hu
 obtain ⟨x,_,rfl⟩:=List.mem_map.1 hu
 rfl
theorem Rd.VQ {w:World} {B n k cap:Nat} {A:Option Addr} {l:List Nat} (h:Rd w B 1 A n (l.map B8)) (hk:k≤n) (hc:n≤cap):Rd w B 1 (if cap=k then A else A.map (·.add (k*1))) (n-k) ((l.drop k).map B8):=by
 have h1:=h.from hk hc
 rw [List.map_drop]
 have e:(l.map B8).drop (k*1)=(l.map B8).drop k:=by rw [Nat.mul_one]
 rw [←e]
 exact h1
theorem qy7 (l:List Nat):((jo l).toList==(jo l).toList)=true:=by simp
theorem Mem.le {W w:World} {fs:List Fact} (h:Mem W w fs) {B:Nat} (hB:B≤W.heap.size):B≤w.heap.size:=Nat.le_trans hB h.size
theorem Dp {x:Int} (h: -9223372036854775808≤x∧x≤9223372036854775807):Value.int .i64 (IntKind.i64.wrap x)= .int .i64 x:=by rw [IntWalk.i64_in x h]
def qx (w:World) (er:Nat) (R:List Nat) (r:Ending) (w':World):Prop:=
 (∃A c,r= .returned (.tuple #[.slice A R.length c,.int .i64 (er:Int)])∧w'.ownsRow w.heap.size 5 1 (.slice A R.length c) R.length (R.map B8)∧R.length≤c)∧Below w.heap.size w w'
section
variable {P:Program} {S:World→Prop} {σ:List (Nat×Value)} {o:Oper} {t e:TypeId} {z:Value} {size bytes:Nat}
theorem Yl.sliceFrom (ei:EI P t e z size bytes) {x lo:Operand} {A:Option Addr} {m c j:Nat} {k:IntKind} (hop:o.op= .slice t x (some lo) none none) (hx:look σ x=some (.slice A m c)) (hl:look σ lo=some (.int k (j:Int))) (hj:j≤m):
  Yl P S σ o (.slice (if c=j then A else A.map (·.add (j*size))) (m-j) (c-j)):=fun a n D Z w hS=>by
 unfold execOp
 simp only [hop,Z.eval hx,Z.eval hl,Option.map_some,Option.map_none,Sem.run_bind,Sem.run_pure,qkp (P:=P) ei hj,Result.andThen_ok]
theorem Yl.zG (ei:EI P t e z size bytes) {x hi:Operand} {A:Option Addr} {m c j:Nat} {k:IntKind} (hop:o.op= .slice t x none (some hi) none) (hx:look σ x=some (.slice A m c)) (hl:look σ hi=some (.int k (j:Int))) (hj:j≤c):
  Yl P S σ o (.slice A j c):=fun a n D Z w hS=>by
 unfold execOp
 simp only [hop,Z.eval hx,Z.eval hl,Option.map_some,Option.map_none,Sem.run_bind,Sem.run_pure,qkq (P:=P) ei hj,Result.andThen_ok]
end
section
variable {P:Program} {S:World→Prop} {σ:List (Nat×Value)} {o:Oper}
def placesOf (P:Program):List Field→Option (List (Nat×Nat))
 |[]=>some []
 |f::r=>match P.info? f.type,placesOf P r with
  |some i,some l=>some ((f.offset,i.size)::l)
  |_,_=>none
theorem qh8:∀{fs:List Field} {l:List (Nat×Nat)},placesOf P fs=some l→∀w,(fs.mapM fun f=>(do pure (f.offset,←sizeOf f.type):Sem (Nat×Nat))).run P w= .ok l w
 |[],l,h,w=>by cases h;rfl
 | f :: r, l, h, w => by
  unfold placesOf at h
  split at h
  ·rename_i i l' hi hr
   injection h with h
   subst h
   simp [List.mapM_cons,sizeOf,typeInfo,hi]
   have:=qh8 hr w
   simp [sizeOf,typeInfo] at this
   simp [this]
  ·cases h
def qk3 (P:Program) (t:TypeId) (vs:List (Nat×Value)):Option (Array Value):=match P.underlying t,CG P t with
 |some (.struct fs),some z=>match placesOf P fs.toList with
  |some l=>Instr.fill (l.toArray[·]?) z vs
  |none=>none
 |_,_=>none
theorem Yl.build {t:TypeId} {ps:Array (Nat×Operand)} {vs:List (Nat×Value)} {cs:Array Value} (hop:o.op= .build t ps) (hv:Dk σ ps.toList=some vs) (hb:qk3 P t vs=some cs):Yl P S σ o (.agg cs):=fun a n D Z w hS=>by
 have hpm:=VF Z hv
 have e1:(Instr.build t (ps.map fun p=>(p.1,a.eval p.2))).run P w= .ok (.agg cs) w:=by
  rw [hpm]
  unfold qk3 at hb
  split at hb
  ·rename_i fs z hu hz
   split at hb
   ·rename_i l hl
    unfold CG at hz
    obtain ⟨zv,hz1,rfl⟩:=Option.map_eq_some_iff.1 hz
    obtain ⟨i,hi,hz2⟩:=Option.bind_eq_some_iff.1 hz1
    have hm:(fs.mapM fun f=>(do Pure.pure (f.offset,←sizeOf f.type):Sem (Nat×Nat))).run P w= .ok l.toArray w:=by
     rw [←Array.toArray_toList (xs:=fs),List.mapM_toArray]
     simp only [Sem.run_map,qh8 hl]
     rfl
    unfold Instr.build
    simp only [Sem.run_bind,zeroValue,typeInfo,program,Sem.run,hi,hz2,Sem.run_pure,Result.andThen_ok,run_underlying hu,hm,hb]
   ·cases hb
  ·cases hb
 unfold execOp
 simp only [hop,Sem.run_bind,Sem.run_pure]
 show ((Instr.build t (ps.map fun p=>(p.1,a.eval p.2))).run P w).andThen _=_
 rw [e1]
 rfl
end
theorem Dq {w:World} {base:Nat} {e:TypeId} {size n c:Nat} {A:Option Addr} {xs:List Value} (h:w.ownsRow base e size (.slice A n c) n xs) (hn:0<n):∃g,A=some ⟨g,0,none⟩:=by
 obtain ⟨g,c',h1,_⟩:=zdc h hn
 injection h1 with h1 _ _
 exact ⟨g,h1⟩
theorem Mem.VR {W w:World} {fs:List Fact} (h:Mem W w fs) {α:Type} {f:α→List Value} {sz:Nat} (hf:∀x,(f x).length=sz) {i g m c:Nat} {e:TypeId} {l:List α} (hi:fs[i]?=some (.row (.slice (some ⟨g,0,none⟩) m c) m (l.flatMap f) e sz)) {k:Nat} {x:α} (hk:l[k]?=some x):w.rangeAt g (k*sz) (f x):=
 h.VG hi (k*sz) fun j u hu=>by
  obtain ⟨hl,he⟩:=List.getElem?_eq_some_iff.1 hk
  have hj:j<sz:=by have:=(List.getElem?_eq_some_iff.1 hu).1;rwa [hf] at this
  rw [GV f sz hf l k j hl hj,he]
  exact hu
section
variable {P:Program} {S:World→Prop} {σ:List (Nat×Value)} {o:Oper} {v:Value}
def KW (P:Program) (t:TypeId):Bool:=match P.underlying t with
 |some (.func _ _ _)=>true
 |_=>false
theorem qwo {t:TypeId} {f:Fn} {xs ys:Array Value} (ht:KW P t=true) (w:World):(Op.equal t (.func f xs ys) .nilFunc).run P w= .ok false w:=by
 unfold KW at ht
 split at ht
 ·rename_i hu
  show (Op.equalIn (9999+1) t (.func f xs ys) .nilFunc).run P w=_
  unfold Op.equalIn
  simp only [Sem.run_bind,run_underlying hu,Result.andThen_ok]
  rfl
 ·cases ht
theorem qy8 {t:TypeId} (ht:KW P t=true) (w:World):(Op.equal t .nilFunc .nilFunc).run P w= .ok true w:=by
 unfold KW at ht
 split at ht
 ·rename_i hu
  show (Op.equalIn (9999+1) t .nilFunc .nilFunc).run P w=_
  unfold Op.equalIn
  simp only [Sem.run_bind,run_underlying hu,Result.andThen_ok]
  rfl
 ·cases ht
theorem Yl.q4s {t u:TypeId} {x y:Operand} {f:Fn} {xs ys:Array Value} (hop:o.op= .binOp .neq t x y u) (hx:look σ x=some (.func f xs ys)) (hy:look σ y=some .nilFunc) (ht:KW P t=true):Yl P S σ o (.bool true):=fun a n D Z w hS=>by
 unfold execOp
 have e:(binOp .neq t (.func f xs ys) .nilFunc).run P w= .ok (.bool true) w:=by
  show ((do Pure.pure (.bool (!(←Op.equal t (.func f xs ys) .nilFunc))):Sem Value)).run P w=_
  simp [qwo ht]
 simp only [hop,Z.eval hx,Z.eval hy,Sem.run_bind,KO (P:=P) .neq t x y (a:= .func f xs ys) rfl,Result.andThen_ok,e,Sem.run_pure]
theorem Yl.zfd {t u:TypeId} {x y:Operand} (hop:o.op= .binOp .neq t x y u) (hx:look σ x=some .nilFunc) (hy:look σ y=some .nilFunc) (ht:KW P t=true):Yl P S σ o (.bool false):=fun a n D Z w hS=>by
 unfold execOp
 have e:(binOp .neq t .nilFunc .nilFunc).run P w= .ok (.bool false) w:=by
  show ((do Pure.pure (.bool (!(←Op.equal t .nilFunc .nilFunc))):Sem Value)).run P w=_
  simp [qy8 ht]
 simp only [hop,Z.eval hx,Z.eval hy,Sem.run_bind,KO (P:=P) .neq t x y (a:= .nilFunc) rfl,Result.andThen_ok,e,Sem.run_pure]
theorem Yl.zfe {t:TypeId} {x:Operand} {m:Nat} (hop:o.op= .unOp .xor t x) (hx:look σ x=some (.int .u32 (m:Int))) (hm:m<4294967296):Yl P S σ o (.int .u32 ((m^^^4294967295:Nat):Int)):=fun a n D Z w hS=>by
 have h1:=MP (m:=4294967295) (n:=m) de hm
 rw [Nat.xor_comm] at h1
 unfold execOp
 simp only [hop,Z.eval hx,Op.unary]
 rw [←h1]
 rfl
def qy9 (P:Program) (t:TypeId):Option (Nat×Nat):=match P.underlying t with
 |some (.array n e)=>(P.info? e).map fun i=>(n,i.size)
 |_=>none
theorem Yl.MQ {t:TypeId} {x ix:Operand} {ad:Addr} {m y sz:Nat} {k:IntKind} (hop:o.op= .indexAddr t x ix) (hx:look σ x=some (.pointer (some ad))) (hi:look σ ix=some (.int k (y:Int))) (he:qy9 P t=some (m,sz)) (hy:y<m):Yl P S σ o (.pointer (some (ad.add (y*sz)))):=fun a n D Z w hS=>by
 unfold qy9 at he
 split at he
 ·rename_i m' e hu
  obtain ⟨i,hi',he⟩:=Option.map_eq_some_iff.1 he
  injection he with h1 h2
  subst h1;subst h2
  unfold execOp
  simp [hop,Z.eval hx,Z.eval hi,Instr.indexAt,asIntOf,run_underlying hu,hy,sizeOf,typeInfo,hi',Instr.sureAddr]
 ·cases he
theorem Yl.G9 {t e:TypeId} {z:Value} {size bytes:Nat} (ei:EI P t e z size bytes) {x lo hi:Operand} {A:Option Addr} {m c i j:Nat} {k k':IntKind} (hop:o.op= .slice t x (some lo) (some hi) none) (hx:look σ x=some (.slice A m c)) (hl:look σ lo=some (.int k (i:Int))) (hh:look σ hi=some (.int k' (j:Int))) (hij:i≤j) (hj:j≤c):
  Yl P S σ o (.slice (if c=i then A else A.map (·.add (i*size))) (j-i) (c-i)):=fun a n D Z w hS=>by
 obtain ⟨inf,VT,_,hs,_⟩:=info_parts ei.hi
 have hi':i≤c:=Nat.le_trans hij hj
 have e1:(Instr.sliceAt t (.slice A m c) (some (.int k (i:Int))) (some (.int k' (j:Int))) none).run P w= .ok (.slice (if c=i then A else A.map (·.add (i*size))) (j-i) (c-i)) w:=by
  subst hs
  simp [Instr.sliceAt,run_underlying ei.ht,Instr.slice,Instr.sliceBounds,Instr.sliceBound,asIntOf,hij,hj,sizeOf,typeInfo,VT]
 unfold execOp
 simp only [hop,Z.eval hx,Z.eval hl,Z.eval hh,Option.map_some,Option.map_none,Sem.run_bind,e1,Result.andThen_ok]
 rfl
def q8j (P:Program) (t:TypeId):Option Nat:=match P.underlying t with
 |some (.array n _)=>some n
 |_=>none
theorem Yl.arrayAt {t:TypeId} {x:Operand} {A:Option Addr} {m c k:Nat} (hop:o.op= .sliceToArrayPointer t x) (hx:look σ x=some (.slice A m c)) (ht:q8j P t=some k) (hk:k≤m):Yl P S σ o (.pointer A):=fun a n D Z w hS=>by
 unfold q8j at ht
 split at ht
 ·rename_i m' e hu
  injection ht with ht;subst ht
  unfold execOp
  simp [hop,Z.eval hx,Instr.arrayAt,run_underlying hu,Nat.not_lt.2 hk]
 ·cases ht
end
theorem Rd.mid {w:World} {B size n c i j:Nat} {A:Option Addr} {xs:List Value} (h:Rd w B size A n xs) (hij:i≤j) (hj:j≤n) (hc:n≤c):
  Rd w B size (if c=i then A else A.map (·.add (i*size))) (j-i) ((xs.take (j*size)).drop (i*size)):=by
 have h1:=h.from (k:=i) (cap:=c) om hc
 have h2:=h1.upto (k:=j-i) om
 rw [List.drop_take,←Nat.sub_mul]
 exact h2
theorem Rd.CJ {w:World} {B n c i j:Nat} {A:Option Addr} {l:List Nat} (h:Rd w B 1 A n (l.map B8)) (hij:i≤j) (hj:j≤n) (hc:n≤c):
  Rd w B 1 (if c=i then A else A.map (·.add (i*1))) (j-i) (((l.take j).drop i).map B8):=by
 have h1:=h.mid hij hj hc
 rw [Nat.mul_one,Nat.mul_one,←List.map_take,←List.map_drop] at h1
 rw [Nat.mul_one]
 exact h1
section
variable {W w:World} {fs:List Fact}
theorem Mem.zH (h:Mem W w fs) {g:Nat} {ob:Obj} (hb:W.heap[g]?=some ob):w.heap[g]?=some ob:=(h.below.block g (qY hb)).trans hb
theorem Mem.rD (h:Mem W w fs) {g off:Nat} {cs:Array Value} {t:TypeId} {v:Value} (hb:W.heap[g]?=some (.cells cs t (0,0))) (hc:cs[off]?=some v):w.cell? ⟨g,off,none⟩=some v:=by
 simp [World.cell?,h.zH hb,hc]
end
section
variable {P:Program} {S:World→Prop} {σ:List (Nat×Value)} {o:Oper}
end
theorem qph {α:Type} (f:α→List Value) (sz:Nat) (hf:∀x,(f x).length=sz):∀(l:List α) (k:Nat),(l.flatMap f).drop (k*sz)=(l.drop k).flatMap f
 |[],_=>by simp
 |_::_,0=>by simp
 |x::l,k+1=>by
  rw [List.flatMap_cons,List.drop_succ_cons,List.drop_append,List.drop_of_length_le (by rw [hf,Nat.succ_mul];omega),hf,←qph f sz hf l k,List.nil_append]
  congr 1
  rw [Nat.succ_mul];omega
theorem Rd.zfj {α:Type} {f:α→List Value} {sz:Nat} (hf:∀x,(f x).length=sz) {w:World} {B k c:Nat} {A:Option Addr} {l:List α} (h:Rd w B sz A l.length (l.flatMap f)) (hk:k≤l.length) (hc:l.length≤c):Rd w B sz (if c=k then A else A.map (·.add (k*sz))) (l.drop k).length ((l.drop k).flatMap f):=by
 have h1:=h.from hk hc
 rwa [qph f sz hf,←List.length_drop] at h1
theorem Rd.zfg {α:Type} {f:α→List Value} {size:Nat} (hf:∀x,(f x).length=size) {w:World} {B n g o:Nat} {l:List α} (h:Rd w B size (some ⟨g,o,none⟩) n (l.flatMap f)) {k j m:Nat} {x:α} {ys:List Value} (hk:l[k]?=some x) (hy:((f x).drop j).take m=ys):w.rangeAt g (o+k*size+j) ys:=fun i u hu=>by
 rw [←hy,List.getElem?_take] at hu
 split at hu
 ·rw [List.getElem?_drop] at hu
  have h1:=h.qm hf hk (j+i) u hu
  rwa [←Nat.add_assoc] at h1
 ·cases hu
theorem Lj {α:Type} {l:List α} {k:Nat} (d:α) (h:k<l.length):l.take (k+1)=l.take k++[l.getD k d]:=by simp_all
section
variable {P:Program} {Q:Exit→Act→World→Prop} {a:Act} {W w:World} {n d:Nat} {D:List Deferred} {σ:List (Nat×Value)} {o:Oper} {K:Act→World→Prop} {fs:List Fact} {S:World→Prop}
theorem Yl.cap {x:Operand} {t:TypeId} {A:Option Addr} {m c:Nat} (hop:o.op= .call {callee:= .builtin .cap,args:= #[x],argTypes:= #[t]}) (hx:look σ x=some (.slice A m c)) (ht:uU P t=true):Yl P S σ o (.int .i64 (c:Int)):=fun a n D Z w hS=>by
 unfold uU at ht
 split at ht
 ·rename_i e hu
  unfold execOp
  simp [hop,resolve,invoke,builtin,Z.eval hx,Builtin.cap_,run_underlying hu,goInt]
 ·cases ht
theorem qmx (Z:Fr a n D σ) (E:Mem W w fs) {s x:Operand} {t tn e:TypeId} {z:Value} {size bytes m:Nat} {kn k:IntKind} (hop:o.op= .call {callee:= .builtin .append,args:= #[s,x],argTypes:= #[t,tn]}) (ei:EI P t e z size bytes) (htn:P.underlying tn=some (.int kn))
  (hs:look σ s=some (.slice none 0 0)) (hx:look σ x=some (.int k (m:Int))) (h0:0<m) (h63:m≤4611686018427387904) (hb:m*bytes≤281474976710656)
  (hd:o.dst=some d) (hdn:d<n) (kk:∀a' w' g c',Fr a' n D ((d,.slice (some ⟨g,0,none⟩) m c')::σ)→Mem W w' (.row (.slice (some ⟨g,0,none⟩) m c') m (Builtin.zeroCells z.cells m).toList e size::fs)→m≤c'→K a' w'):o.wp P a w K Q:=by
 obtain ⟨i,hi,hz,hsz,hby⟩:=info_parts ei.hi
 have hr:=Lib.run_append_nil_zeros (P:=P) w t tn o.type e i z k kn ei.ht htn hi hz m h0 (by rw [hsz];exact ei.hs) om (by rw [hby];exact hb)
 have h1:m≤grownCap w m 0 e:=grownCap_ge w m 0 e
 have h2:grownCap w m 0 e≤maxLen:=grownCap_le_maxLen w m 0 e (by unfold maxLen;omega)
 have hzl:(Builtin.zeroCells z.cells m).size=m*size:=by rw [size_zeroCells,ei.hz]
 have hown:(w.drew.alloc (.cells (Builtin.zeroCells z.cells m++Builtin.zeroCells z.cells (grownCap w m 0 e-m)) e)).ownsRow w.heap.size e size (.slice (some ⟨w.heap.size,0,none⟩) m (grownCap w m 0 e)) m (Builtin.zeroCells z.cells m).toList:=by
  refine ⟨by simpa using hzl,.inr ⟨w.heap.size,_,_,rfl,Nat.le_refl _,World.alloc_heap_new w.drew _,h1,h2,?_,?_⟩⟩
  ·rw [Array.size_append,hzl,size_zeroCells,ei.hz,←Nat.add_mul]
   congr 1
   omega
  ·rw [Array.toList_append,←hzl,←Array.length_toList]
   exact List.take_left
 unfold Oper.wp execOp
 simp only [hop,resolve,invoke,builtin,Sem.run_bind,Sem.run_pure,Result.andThen_ok,List.map_toArray,List.map_cons,List.map_nil,Z.eval hs,Z.eval hx,hr]
 rw [Oper.upon_value,hd]
 exact kk _ _ w.heap.size _ (Z.put hdn _) (E.bq ((Below.refl _ _).drew.alloc (by simp) _) hown) h1
theorem Mem.shrink (h:Mem W w fs) {i m k c size:Nat} {A:Option Addr} {e:TypeId} {xs:List Value} (hi:fs[i]?=some (.row (.slice A m c) m xs e size)) (hk:k≤m) (hA:A=none→k=0∧c=0):Mem W w (fs.set i (.row (.slice A k c) k (xs.take (k*size)) e size)):=by
 have ho:=h.own hi
 refine h.turn hi h.below (fun _ _ _=>rfl) ?_ (fun g' hg'=> .inl (by cases A<;>exact hg'))
 refine ⟨by rw [List.length_take,ho.1];exact Nat.min_eq_left (Nat.mul_le_mul_right _ hk),?_⟩
 rcases ho.2 with ⟨h1,h2⟩|⟨g,cap,cur,h1,h2,h3,h4,h5,h6,h7⟩
 ·injection h1 with h1 _ _
  obtain ⟨rfl,rfl⟩:=hA h1
  subst h1
  exact .inl ⟨rfl,rfl⟩
 ·injection h1 with h1 _ h8
  subst h1;subst h8
  refine .inr ⟨g,c,cur,rfl,h2,h3,by omega,h5,h6,?_⟩
  rw [←h7,List.take_take,Nat.min_eq_left (Nat.mul_le_mul_right _ hk)]
end
theorem q8k {m n j:Nat} (hm:m<2^j):m|||n*2^j=m+n*2^j:=by grind [Nat.add_comm,Nat.mul_comm,Nat.two_pow_add_eq_or_of_lt]
theorem VU {m n j p:Nat} (hp:2^j=p) (hm:m<p) (hb:m+n*p<4294967296):Value.int .u32 (Go.IntKind.u32.wrap (BitVec.ofInt Go.IntKind.u32.bits (m:Int)|||BitVec.ofInt Go.IntKind.u32.bits ((n*p:Nat):Int)).toNat)= .int .u32 ((m+n*p:Nat):Int):=by
 subst hp
 have h:=zde (m:=m) (n:=n*2^j) om om
 rw [q8k hm] at h
 exact h
theorem q45 {m n j p:Nat} (hp:2^j=p) (hm:n<p) (hb:m*p+n<9223372036854775808):Value.int .i64 (Go.IntKind.i64.wrap (BitVec.ofInt Go.IntKind.i64.bits ((m*p:Nat):Int)|||BitVec.ofInt Go.IntKind.i64.bits (n:Int)).toNat)= .int .i64 ((m*p+n:Nat):Int):=by
 subst hp
 have h:=zdf (m:=m*2^j) (n:=n) om om
 rw [Nat.or_comm,q8k hm,Nat.add_comm] at h
 exact h
structure Part where
 A:Option Addr
 c:Nat
 l:List Nat
def Part.val (p:Part):Value:= .slice p.A p.l.length p.c
theorem MR {l:List Part} {k:Nat} {d:Part} (h:k<l.length):(l.take (k+1)).flatMap (·.l)=(l.take k).flatMap (·.l)++(l.getD k d).l:=by
 rw [List.take_add_one,getD_at d h];simp
theorem MS {l:List Part} (k:Nat):((l.take k).flatMap (·.l)).length≤(l.flatMap (·.l)).length:=by grind [List.length_append,List.take_append_drop]
def uY (n:Nat):List Nat:=[n%256,n/256%256,n/65536%256,n/16777216%256]
def bF (l:List Nat):List Nat:=l++uY (qu l)
def mP (l:List Nat):Nat:=l.getD 0 0+256*l.getD 1 0+65536*l.getD 2 0+16777216*l.getD 3 0
def zq (l:List Nat):Bool:=decide (4≤l.length∧qu (l.take (l.length-4))=mP (l.drop (l.length-4)))
theorem Wd (k:Nat) (h:k<16):xU.getD k 0<4294967296:=by
 have:∀k,k<16→xU.getD k 0<4294967296:=by decide
 exact this k h
def Is (w:World) (v:Value) (r:Ending) (w':World):Prop:=r= .returned v∧Below w.heap.size w w'
def zz (w:World) (R:List Nat) (r:Ending) (w':World):Prop:=
 (∃A c,r= .returned (.slice A R.length c)∧w'.ownsRow w.heap.size 5 1 (.slice A R.length c) R.length (R.map B8)∧R.length≤c)∧Below w.heap.size w w'
theorem zz.as {w w':World} {R R':List Nat} {r:Ending} (h:zz w R r w') (e:R=R'):zz w R' r w':=e▸h
theorem qid {w w':World} {R xs:List Nat} {n c:Nat} {A:Option Addr} (ho:w'.ownsRow w.heap.size 5 1 (.slice A n c) n (xs.map B8)) (hc:n≤c) (hn:n=R.length) (hx:xs=R) (hb:Below w.heap.size w w'):zz w R (.returned (.slice A n c)) w':=by
 subst hx;subst hn
 exact ⟨⟨A,c,rfl,ho,hc⟩,hb⟩
theorem qwq {x:Nat} {w:World} (hx:x<18446744073709551616):Calls Tryz.prog 109 #[.slice none 0 0,.int .u64 (x:Int)] w (zz w (aj x)):=
 (qyh x w w.heap.size (.slice none 0 0) 0 [] hx (World.ownsRow_nil _ _ _ _) (Nat.le_refl _) om).mono fun e w' ⟨v, h1, h2, h3, _⟩ => by
  rw [Nat.zero_add,List.nil_append] at h2
  obtain ⟨A,c,rfl,hc⟩:=EY h2
  exact ⟨⟨A,c,h1,h2,hc⟩,(Below.refl _ _).grown h3 (Nat.le_refl _) (fun g hg=>by cases hg)⟩
theorem SK (A:Option Addr) (n c:Nat) (ls:List Nat) (w:World) (hr:Rd w w.heap.size 1 A n (ls.map aR)) (hls:∀x∈ls,x<18446744073709551616) (hn:10*n≤140737488355000):
  Calls Tryz.prog 49 #[.slice A n c] w (zz w (ls.flatMap aj)):=
 (qoh A n c ls w hr hls hn).mono fun e w' ⟨v, h1, h2, h3⟩ => by
  obtain ⟨A,c,rfl,hc⟩:=EY h2
  exact ⟨⟨A,c,h1,h2,hc⟩,h3⟩
theorem qrr (c:Nat) (l:List Nat) (x:Nat):qw c (l++[x])=Ho (qw c l) x:=by unfold qw;rw [List.foldl_append];rfl
theorem qjk {c k:Nat} {l:List Nat} (h:k<l.length):qw c (l.take (k+1))=Ho (qw c (l.take k)) (l.getD k 0):=by
 rw [List.take_add_one,getD_at 0 h];exact qrr _ _ _
theorem yQ {l:List Nat} {m:Nat} (h:∀b∈l,b<m) (k:Nat):∀b∈l.take k,b<m:=fun b hb=>h b (List.mem_of_mem_take hb)
theorem qc4 {l:List Nat} {m:Nat} (h:∀b∈l,b<m) (k:Nat):∀b∈l.drop k,b<m:=fun b hb=>h b (List.mem_of_mem_drop hb)
theorem zdg {c:Nat} (h:c<4294967296):uX c<4294967296:=M8 om (Wd _ om)
theorem qo1 (l:List Nat):qu l<4294967296:=by unfold qu;omega
theorem zdh (n:Nat):∀b∈uY n,b<256:=by intro b hb;simp [uY] at hb;omega
theorem zab (n:Nat):(uY n).length=4:=rfl
theorem Fe (l:List Nat):(bF l).length=l.length+4:=by unfold bF;rw [List.length_append,zab]
theorem q5k:∀{l:List Nat},(∀x∈l,x<256)→4≤l.length→uY (mP l)=l.take 4
 |a::b::c::d::r,hl,_=>by
  have ha:=hl a (by simp)
  have hb:=hl b (by simp)
  have hc:=hl c (by simp)
  have hd:=hl d (by simp)
  simp [uY,mP]
  omega
 |[],_,h=>by simp at h
 |[_],_,h=>by simp at h
 |[_,_],_,h=>by simp at h
 |[_,_,_],_,h=>by simp at h
theorem q5l {l:List Nat} (hl:∀x∈l,x<256) (h:4≤l.length):uY (mP (l.drop (l.length-4)))=l.drop (l.length-4):=by grind [qc4,q5k,List.length_drop,List.take_of_length_le]
theorem qzn {l:List Nat} (hl:∀x∈l,x<256) (h:zq l=true):bF (l.take (l.length-4))=l:=by simp_all [q5l,bF,zq]
theorem Dw (x:Nat):∀b∈aj x,b<256:=by
 intro b hb
 unfold aj at hb
 obtain ⟨p,hp,rfl⟩:=List.mem_map.1 hb
 have:=UW 10 x p hp
 unfold j6
 split<;>omega
theorem qzo {l m:List Nat} (hl:∀b∈l,b<256) (hm:∀b∈m,b<256):((jo l).toList==(jo m).toList)=decide (l=m):=by
 rw [Bool.eq_iff_iff,beq_iff_eq,decide_eq_true_eq]
 constructor
 ·intro h
  refine q4x hl hm ?_
  rw [ByteArray.toList_eq,ByteArray.toList_eq] at h
  cases hx:jo l;cases hy:jo m
  rw [hx,hy] at h
  simpa using h
 ·rintro rfl;rfl
set_option linter.all false
def WU (P:Program) (t:TypeId):Bool:=match P.underlying t with
 |some (.array n e)=>n==2&& (P.cellsOf e==1&& (jl P e&&match P.underlying e with
  |some (.int _)=>true
  |_=>false))
 |_=>false
theorem q57 {P:Program} {t:TypeId} (ht:WU P t=true) {k:Go.IntKind} (a b c d:Int) (w:World):
  (Op.equal t (.agg #[.int k a,.int k b]) (.agg #[.int k c,.int k d])).run P w= .ok (a==c&&b==d) w:=by
 unfold WU at ht
 split at ht
 ·rename_i n e hu
  simp only [Bool.and_eq_true,beq_iff_eq] at ht
  obtain ⟨h1,h2,h3,h4⟩:=ht
  subst h1
  split at h4
  ·rename_i k' hk
   obtain ⟨i,hi⟩:=info_of_underlying hk
   show (Op.equalIn (9999+1) t _ _).run P w=_
   rw [run_equalIn_array w 9999 _ _ hu hi,h2]
   have hp:∀(xs:Array Value) (j:Nat) (v:Value),xs[j]?=some v→(part e xs j).run P w= .ok v w:=fun xs j v h=>by
    unfold part
    simp [Sv h3,h]
   have he:∀x y,(Op.equalIn 9999 e (.int k x) (.int k y)).run P w= .ok (x==y) w:=fun x y=>run_equalIn_int w 9998 e k k' x y hk
   show (Op.eqItems 9999 e 1 _ _ [0,1]).run P w=_
   have p1:(part e #[.int k a,.int k b] 0).run P w= .ok (.int k a) w:=hp _ _ _ rfl
   have p2:(part e #[.int k c,.int k d] 0).run P w= .ok (.int k c) w:=hp _ _ _ rfl
   have p3:(part e #[.int k a,.int k b] 1).run P w= .ok (.int k b) w:=hp _ _ _ rfl
   have p4:(part e #[.int k c,.int k d] 1).run P w= .ok (.int k d) w:=hp _ _ _ rfl
   have q1:=he a c
   have q2:=he b d
   generalize (9999:Nat)=dd at q1 q2⊢
   simp only [Op.eqItems,Sem.run_bind,Nat.zero_mul,Nat.one_mul,p1,p2,q1,Result.andThen_ok]
   cases h5:(a==c)<;>cases h6:(b==d)<;>simp [p3,p4,q2,h6]
  ·cases h4
 ·cases ht
section
variable {P:Program} {S:World→Prop} {σ:List (Nat×Value)} {o:Oper}
theorem qpe {t:TypeId} (hg:P.eqGuardType P.depth t=false) (op:BinOp) (x y:Operand) (a b:Array Value) (w:World):(eqGuard op t x y (.agg a) (.agg b)).run P w= .ok () w:=by
 unfold eqGuard
 cases op<;>simp<;>simp [hg]
theorem Yl.zc3 {t u:TypeId} {p q:Operand} {k:Go.IntKind} {a b c d:Int} (hop:o.op= .binOp .neq t p q u) (hx:look σ p=some (.agg #[.int k a,.int k b])) (hy:look σ q=some (.agg #[.int k c,.int k d])) (ht:WU P t=true) (hg:P.eqGuardType P.depth t=false):Yl P S σ o (.bool (!(a==c&&b==d))):=fun ac n D Z w hS=>by
 unfold execOp
 have e:(binOp .neq t (.agg #[.int k a,.int k b]) (.agg #[.int k c,.int k d])).run P w= .ok (.bool (!(a==c&&b==d))) w:=by
  show ((do Pure.pure (.bool (!(←Op.equal t (.agg #[.int k a,.int k b]) (.agg #[.int k c,.int k d])))):Sem Value)).run P w=_
  simp [q57 ht]
 simp only [hop,Z.eval hx,Z.eval hy,Sem.run_bind,qpe hg,Result.andThen_ok,e,Sem.run_pure]
end
theorem zdn {w:World} {B n g o k:Nat} {l:List Nat} (h:Rd w B 1 (some ⟨g,o,none⟩) n (l.map B8)) (hk:k+2≤l.length):w.rangeAt g (o+k) (#[B8 (l.getD k 0),B8 (l.getD (k+1) 0)]:Array Value).toList:=fun j v hv=>by
 have hr:=h.range
 rw [Nat.add_assoc]
 refine hr (k+j) v ?_
 rcases j with _|_|j
 ·simp at hv
  rw [Nat.add_zero,←hv]
  exact E5 (getD_at 0 om)
 ·simp at hv
  rw [←hv]
  exact E5 (getD_at 0 om)
 ·simp at hv
section
variable {P:Program} {S:World→Prop} {σ:List (Nat×Value)} {o:Oper}
theorem Yl.xZ {t u:TypeId} {x y:Operand} {k k':Go.IntKind} {m n:Nat} (hop:o.op= .binOp .shr t x y u) (hx:look σ x=some (.int k (m:Int))) (hy:look σ y=some (.int k' (n:Int))) (hn:n≤k.bits):Yl P S σ o (.int k ((m/2^n:Nat):Int)):=fun a N D Z w hS=>by
 have hb:qed .shr (.int k (m:Int)) (.int k' (n:Int))=some (.int k ((m/2^n:Nat):Int)):=by
  show (if (n:Int)<0 then none else some (Value.int k (Int.fdiv (m:Int) (2^ (Min.min (n:Int).toNat k.bits)))))=_
  rw [if_neg om]
  exact congrArg some (Dn k m (j:=n) rfl (by rw [Int.toNat_natCast,Nat.min_eq_left hn]))
 unfold execOp
 simp [hop,Z.eval hx,Z.eval hy,KO (P:=P) .shr t x y (a:= .int k (m:Int)) rfl,Ve hb t]
theorem Yl.WZ {t u:TypeId} {x y:Operand} {k k':Go.IntKind} {m n:Nat} (hop:o.op= .binOp .shl t x y u) (hx:look σ x=some (.int k (m:Int))) (hy:look σ y=some (.int k' (n:Int))) (hn:n≤k.bits) (hm:m*2^n≤nu k):Yl P S σ o (.int k ((m*2^n:Nat):Int)):=fun a N D Z w hS=>by
 have hb:qed .shl (.int k (m:Int)) (.int k' (n:Int))=some (.int k ((m*2^n:Nat):Int)):=by
  show (if (n:Int)<0 then none else some (Value.int k (k.wrap ((m:Int)*2^ (Min.min (n:Int).toNat k.bits)))))=_
  rw [if_neg om]
  have e:(m:Int)*2^ (Min.min (n:Int).toNat k.bits)=((m*2^n:Nat):Int):=by rw [Int.toNat_natCast,Nat.min_eq_left hn];norm_cast
  rw [e,Dl k hm]
 unfold execOp
 simp [hop,Z.eval hx,Z.eval hy,KO (P:=P) .shl t x y (a:= .int k (m:Int)) rfl,Ve hb t]
end
section
variable {P:Program} {S:World→Prop} {σ:List (Nat×Value)} {o:Oper} {v:Value}
theorem Yl.nilCheck {x:Operand} {p:Addr} (hop:o.op= .nilCheck x) (hx:look σ x=some (.pointer (some p))):Yl P S σ o (.pointer (some p)):=fun _ n D Z w hS=>by
 unfold execOp
 simp only [hop,Z.eval hx]
 rfl
end
def sM (P:Program) (t:TypeId) (cs:Array Value) (off:Nat):Option Value:=
 match P.underlying t,P.info? t with
 |some (.struct _),some i=>some (.agg (cs.extract off (off+i.size)))
 |some (.int _),_=>cs[off]?
 |some .bool,_=>cs[off]?
 |some .string,_=>cs[off]?
 |_,_=>none
def He (P:Program) (eq:TypeId→Value→Value→Option Bool) (xs ys:Array Value):List Field→Option Bool
 |[]=>some true
 | f :: fs => if f.name = "_" then none else
  match sM P f.type xs f.offset,sM P f.type ys f.offset with
  |some a,some b=>match eq f.type a b,He P eq xs ys fs with
   |some r,some s=>some (r&&s)
   |_,_=>none
  |_,_=>none
def pK (P:Program):Nat→TypeId→Value→Value→Option Bool
 |0,_,_,_=>none
 |d+1,t,x,y=>match P.underlying t,x,y with
  |some (.int _),.int k a,.int k' b=>if k=k' then some (a==b) else none
  |some .bool,.bool a,.bool b=>some (a==b)
  |some .string,.string a,.string b=>some (a.toList==b.toList)
  |some (.struct fs),.agg xs,.agg ys=>if P.stoodInHeld t then none else He P (pK P d) xs ys fs.toList
  |_,_,_=>none
theorem VW {P:Program} {t:TypeId} {cs:Array Value} {off:Nat} {v:Value} (h:sM P t cs off=some v) (w:World):(part t cs off).run P w= .ok v w:=by
 unfold sM at h
 split at h
 ·rename_i fs i hu hi
  injection h with h;subst h
  simp [part,isAgg,run_underlying hu,sizeOf,typeInfo,hi]
 ·rename_i k _ hu
  simp [part,isAgg,run_underlying hu,h]
 ·rename_i _ hu
  simp [part,isAgg,run_underlying hu,h]
 ·rename_i _ hu
  simp [part,isAgg,run_underlying hu,h]
 ·cases h
theorem qh9 {P:Program} {d:Nat} (ih:∀(t:TypeId) (x y:Value) (b:Bool),pK P d t x y=some b→∀w,(Op.equalIn d t x y).run P w= .ok b w) {xs ys:Array Value}:∀(fs:List Field) (b:Bool),He P (pK P d) xs ys fs=some b→∀w,(Op.eqFields d xs ys fs).run P w= .ok b w
 |[],b,h,w=>by
  injection h with h;subst h;rfl
 | f :: fs, b, h, w => by
  unfold He at h
  split at h
  ·cases h
  ·rename_i hn
   split at h
   ·rename_i p q hp hq
    split at h
    ·rename_i r s hr hs
     injection h with h;subst h
     unfold Op.eqFields
     rw [if_pos hn]
     simp only [Sem.run_bind,VW hp,VW hq,ih _ _ _ _ hr,Result.andThen_ok]
     cases r
     ·simp
     ·simp [qh9 ih fs s hs w]
    ·cases h
   ·cases h
theorem qje {P:Program}:∀(d:Nat) (t:TypeId) (x y:Value) (b:Bool),pK P d t x y=some b→∀w,(Op.equalIn d t x y).run P w= .ok b w
 |0,_,_,_,_,h,_=>by cases h
 | d + 1, t, x, y, b, h, w => by
  unfold pK at h
  split at h
  ·rename_i k' k a k2 b' hu
   split at h
   ·rename_i hk;subst hk;injection h with h;subst h;exact run_equalIn_int w d t _ _ _ _ hu
   ·cases h
  ·rename_i a b' hu;injection h with h;subst h;exact run_equalIn_bool' w d t _ _ hu
  ·rename_i a b' hu;injection h with h;subst h;exact run_equalIn_string w d t _ _ hu
  ·rename_i fs xs ys hu
   split at h
   ·cases h
   ·rename_i hs
    have hf:P.fieldsOf t=fs:=by unfold Program.fieldsOf;rw [hu]
    rw [run_equalIn_struct w d t xs ys (by rw [hu,hf]) (by simpa using hs),hf]
    exact qh9 (qje d) _ _ h w
  ·cases h
theorem qia {P:Program}:∀(d:Nat) (t:TypeId) (x y:Value) (b:Bool),pK P d t x y=some b→pK P (d+1) t x y=some b
 |0,_,_,_,_,h=>by cases h
 | d + 1, t, x, y, b, h => by
  have hf : ∀ (fs : List Field) (xs ys : Array Value) (b : Bool), He P (pK P d) xs ys fs = some b → He P (pK P (d + 1)) xs ys fs = some b := by
   intro fs
   induction fs with
   |nil=>intro xs ys b h;exact h
   | cons f fs ih =>
    intro xs ys b h
    unfold He at h⊢
    split at h
    ·cases h
    ·rename_i hn
     rw [if_neg hn]
     split at h
     ·rename_i p q hp hq
      split at h
      ·rename_i r s hr hs
       injection h with h;subst h
       simp only [qia d _ _ _ _ hr,ih _ _ _ hs]
      ·cases h
     ·cases h
  unfold pK at h⊢
  split at h
  ·rename_i hu;(try simp only [hu]);exact h
  ·rename_i hu;(try simp only [hu]);exact h
  ·rename_i hu;(try simp only [hu]);exact h
  ·rename_i fs xs ys hu
   (try simp only [hu])
   split at h
   ·cases h
   ·rename_i hs
    rw [if_neg hs]
    exact hf _ _ _ _ h
  ·cases h
theorem qk4 {P:Program} {d:Nat} {t:TypeId} {x y:Value} {b:Bool} (h:pK P d t x y=some b):∀k,pK P (d+k) t x y=some b
 |0=>h
 |k+1=>qia _ _ _ _ _ (qk4 h k)
section
variable {P:Program} {S:World→Prop} {σ:List (Nat×Value)} {o:Oper} {b:Bool}
theorem qrn {t:TypeId} {xs ys:Array Value} {d:Nat} (h:pK P d t (.agg xs) (.agg ys)=some b) (hd:d≤10000) (w:World):(Op.equal t (.agg xs) (.agg ys)).run P w= .ok b w:=by
 unfold Op.equal
 have h2:=qk4 h (10000-d)
 rw [show d+(10000-d)=10000 by omega] at h2
 exact qje _ _ _ _ _ h2 w
theorem qro {t:TypeId} (hm:P.eqGuardType P.depth t=false) (op:BinOp) (x y:Operand) (a c:Array Value) (w:World):(eqGuard op t x y (.agg a) (.agg c)).run P w= .ok () w:=run_eqGuard_agg w op t x y a c hm
theorem Yl.MU {t u:TypeId} {p q:Operand} {xs ys:Array Value} {d:Nat} (hop:o.op= .binOp .neq t p q u) (hx:look σ p=some (.agg xs)) (hy:look σ q=some (.agg ys)) (h:pK P d t (.agg xs) (.agg ys)=some b) (hd:d≤10000:=by decide) (hm:P.eqGuardType P.depth t=false:=by kernel_rfl):Yl P S σ o (.bool !b):=fun a n D Z w hS=>by
 unfold execOp
 have e:(binOp .neq t (.agg xs) (.agg ys)).run P w= .ok (.bool !b) w:=by
  show ((do Pure.pure (.bool (!(←Op.equal t (.agg xs) (.agg ys)))):Sem Value)).run P w=_
  simp [qrn h hd]
 simp only [hop,Z.eval hx,Z.eval hy,Sem.run_bind,qro hm,Result.andThen_ok,e,Sem.run_pure]
end
def Tv (P:Program) (t:TypeId) (n sz:Nat):Bool:=match P.underlying t with
 |some (.array m e)=>m==n&& (match P.info? e with|some i=>i.size==sz|none=>false)
 |_=>false
theorem qpk {P:Program} {t:TypeId} {n sz:Nat} (h:Tv P t n sz=true):∃e i,P.underlying t=some (.array n e)∧P.info? e=some i∧i.size=sz:=by grind [Tv]
def qul (P:Program) (t:TypeId) (sz:Nat) (vs:List (Nat×Value)):Option (Array Value):=match CG P t with
 |some zs=>Instr.fill (fun i=>some (i*sz,sz)) zs vs
 |none=>none
section
variable {P:Program} {S:World→Prop} {σ:List (Nat×Value)} {o:Oper} {t:TypeId} {n sz:Nat}
theorem Yl.qwe {x:Operand} {ad:Addr} (hop:o.op= .slice t x none none none) (hx:look σ x=some (.pointer (some ad))) (ht:Tv P t n sz=true) (hn:(n==0)=false:=by decide):Yl P S σ o (.slice (some ad) n n):=fun a N D Z w hS=>by
 obtain ⟨e,i,hu,hi,_⟩:=qpk ht
 have hl:P.arrayLen t=n:=by unfold Program.arrayLen;rw [hu]
 have he:P.elem t=e:=by unfold Program.elem;rw [hu]
 have e1:(Instr.sliceAt t (.pointer (some ad)) none none none).run P w= .ok (.slice (some ad) n n) w:=by
  rw [run_sliceAt_array_all w t ad (by rw [hl,he];exact hu),he,hl]
  have h0:n≠0:=by simpa using hn
  simp [sizeOf,typeInfo,hi,slicedAt,h0,Addr.add]
 unfold execOp
 simp only [hop,Z.eval hx,Option.map_none,Sem.run_bind,Sem.run_pure,e1,Result.andThen_ok]
theorem Yl.Xl {ps:Array (Nat×Operand)} {vs:List (Nat×Value)} {cs:Array Value} (hop:o.op= .build t ps) (hv:Dk σ ps.toList=some vs) (ha:Tv P t n sz=true) (hb:qul P t sz vs=some cs):Yl P S σ o (.agg cs):=fun a N D Z w hS=>by
 have hpm:=VF Z hv
 obtain ⟨e,ie,hu,he,hse⟩:=qpk ha
 obtain ⟨zs,hz,hb⟩:∃zs,CG P t=some zs∧Instr.fill (fun i=>some (i*sz,sz)) zs vs=some cs:=by
  unfold qul at hb
  split at hb
  ·rename_i zs hz;exact ⟨zs,hz,hb⟩
  ·cases hb
 unfold CG at hz
 obtain ⟨zv,hz1,rfl⟩:=Option.map_eq_some_iff.1 hz
 obtain ⟨i,hi,hz2⟩:=Option.bind_eq_some_iff.1 hz1
 have e1:(Instr.build t (ps.map fun p=>(p.1,a.eval p.2))).run P w= .ok (.agg cs) w:=by
  rw [hpm]
  unfold Instr.build
  subst hse
  simp only [Sem.run_bind,zeroValue,sizeOf,typeInfo,program,Sem.run,hi,he,hz2,Sem.run_pure,Result.andThen_ok,run_underlying hu]
  rw [hb];rfl
 unfold execOp
 simp only [hop,Sem.run_bind,Sem.run_pure]
 show ((Instr.build t (ps.map fun p=>(p.1,a.eval p.2))).run P w).andThen _=_
 rw [e1]
 rfl
end
theorem Mem.wT {W w:World} {fs:List Fact} (h:Mem W w fs) {i g:Nat} {cs ds:Array Value} {t:TypeId} (hi:fs[i]?=some (.blk g cs t)) (he:cs=ds):Mem W w (fs.set i (.blk g ds t)):=by grind [List.getElem?_eq_some_iff,List.set_getElem_self]
def q9h (P:Program) (t:TypeId) (cs:Array Value) (i:Nat):Option Value:=
 match P.underlying t with
 |some (.struct fs)=>match fs[i]? with
  |some f=>sM P f.type cs f.offset
  |none=>none
 |_=>none
section
variable {P:Program} {S:World→Prop} {σ:List (Nat×Value)} {o:Oper} {v:Value}
theorem Yl.field {t:TypeId} {p:Operand} {i:Nat} {xs:Array Value} (hop:o.op= .field t p i) (hx:look σ p=some (.agg xs)) (h:q9h P t xs i=some v):Yl P S σ o v:=fun a n D Z w hS=>by
 unfold execOp
 unfold q9h at h
 split at h
 ·rename_i fs hu
  split at h
  ·rename_i f hf
   simp [hop,Z.eval hx,Instr.field,run_underlying hu,hf,asAgg,VW h]
  ·cases h
 ·cases h
end
section
variable {P:Program} {ops:Array Oper} {Q:Exit→Act→World→Prop} {a:Act} {W w:World} {n i j d fuel:Nat} {D:List Deferred} {σ σ':List (Nat×Value)} {o:Oper} {v:Value} {md:Region.Mode} {S:World→Prop} {K:Act→World→Prop} {listed:Array Bool} {fs fs':List Fact} {ex:List Nat}
theorem Yl.o1 {α:Type} {F:α→Value} {l:List α} {g of m:Nat} {t:TypeId} {x:Operand} (hr:Rd W W.heap.size 1 (some ⟨g,of,none⟩) m (l.map F)) (kk:Nat) (dd:α) (hk:kk<l.length) (hop:o.op= .load t x) (hx:look σ x=some (.pointer (some ⟨g,of+kk*1,none⟩))) (ht:jl P t=true:=by kernel_rfl) (hv:F (l.getD kk dd)=v:=by exact rfl):Yl P (fun wS=>Mem W wS fs) σ o v:=by
 subst hv
 exact Yl.qj hop hx ht fun _ h=>(h.old hr).SC (k:=kk) (E5 (getD_at dd hk))
theorem Yl.r1 {α:Type} {F:α→Value} {l:List α} {g m c:Nat} {t e:TypeId} {x:Operand} (j kk:Nat) (dd:α) (hk:kk<l.length) (hop:o.op= .load t x) (hx:look σ x=some (.pointer (some ⟨g,kk*1,none⟩))) (hi:fs[j]?=some (.row (.slice (some ⟨g,0,none⟩) m c) m (l.map F) e 1)) (ht:jl P t=true:=by kernel_rfl) (hv:F (l.getD kk dd)=v:=by exact rfl):Yl P (fun wS=>Mem W wS fs) σ o v:=by
 subst hv
 exact Yl.qj hop hx ht fun _ h=>h.q9y hi (E5 (getD_at dd hk))
def bt (n:Nat) (l:List Nat):Array Bool:=((List.range n).map fun i=> !l.contains i).toArray
def bf (n:Nat) (l:List Nat):Array Bool:=((List.range n).map fun i=>l.contains i).toArray
theorem jd (Z:Fr a n D σ) (hS:S w) (i:Nat) (ho:ops[i]?=some o) (hy:Yl P S σ o v) (k:∀a',Fr a' n D ((d,v)::σ)→qp P md ops Q S ex fuel (listed.setIfInBounds i true) a' w) (hw:dL ops σ o=some true:=by exact rfl) (hd:o.dst=some d:=by exact rfl)
  (hdn:d<n:=by decide) (hok:Di md ops ex listed i=true:=by kernel_rfl) (hQ:∀c (a:Act) w,Q (.panic c) (a.put o.dst v) w→Q (.panic c) a w:=by intro _ _ _ h;exact h):qp P md ops Q S ex (fuel+1) listed a w:=KT Z hS ho hw hd hdn hok hQ hy k
theorem iJ {t:TypeId} {x:Operand} {g off:Nat} {cs:Array Value} {tb:TypeId} (Z:Fr a n D σ) (hS:Mem W w fs) (i j:Nat) (k:∀a',Fr a' n D ((d,v)::σ)→qp P md ops Q (fun wS=>Mem W wS fs) ex fuel (listed.setIfInBounds i true) a' w) (ho:ops[i]?=some o:=by exact rfl) (hop:o.op= .load t x:=by exact rfl) (hx:look σ x=some (.pointer (some ⟨g,off,none⟩)):=by exact rfl) (hi:fs[j]?=some (.blk g cs tb):=by exact rfl) (hv:cs[off]?=some v:=by exact rfl) (hw:dL ops σ o=some true:=by exact rfl) (hd:o.dst=some d:=by exact rfl)
  (ht:jl P t=true:=by kernel_rfl) (hdn:d<n:=by decide) (hok:Di md ops ex listed i=true:=by kernel_rfl) (hQ:∀c (a:Act) w,Q (.panic c) (a.put o.dst v) w→Q (.panic c) a w:=by intro _ _ _ h;exact h):qp P md ops Q (fun wS=>Mem W wS fs) ex (fuel+1) listed a w:=KT Z hS ho hw hd hdn hok hQ (Yl.qj hop hx ht fun _ h=>h.cell hi hv) k
theorem MV {t:TypeId} {x:Operand} {A:Option Addr} {m c:Nat} (Z:Fr a n D σ) (hS:S w) (i:Nat) (k:∀a',Fr a' n D ((d,.int .i64 (m:Int))::σ)→qp P md ops Q S ex fuel (listed.setIfInBounds i true) a' w) (ho:ops[i]?=some o:=by exact rfl) (hop:o.op= .call {callee:= .builtin .len,args:= #[x],argTypes:= #[t]}:=by exact rfl) (hx:look σ x=some (.slice A m c):=by exact rfl) (hw:dL ops σ o=some true:=by exact rfl) (hd:o.dst=some d:=by exact rfl)
  (ht:uU P t=true:=by kernel_rfl) (hdn:d<n:=by decide) (hok:Di md ops ex listed i=true:=by kernel_rfl) (hQ:∀c (a:Act) w,Q (.panic c) (a.put o.dst (.int .i64 (m:Int))) w→Q (.panic c) a w:=by intro _ _ _ h;exact h):qp P md ops Q S ex (fuel+1) listed a w:=KT Z hS ho hw hd hdn hok hQ (Yl.len hop hx ht) k
theorem MW {x:Operand} {p:Addr} (Z:Fr a n D σ) (hS:S w) (i:Nat) (k:∀a',Fr a' n D ((d,.pointer (some p))::σ)→qp P md ops Q S ex fuel (listed.setIfInBounds i true) a' w) (ho:ops[i]?=some o:=by exact rfl) (hop:o.op= .nilCheck x:=by exact rfl) (hx:look σ x=some (.pointer (some p)):=by exact rfl) (hw:dL ops σ o=some true:=by exact rfl) (hd:o.dst=some d:=by exact rfl)
  (hdn:d<n:=by decide) (hok:Di md ops ex listed i=true:=by kernel_rfl) (hQ:∀c (a:Act) w,Q (.panic c) (a.put o.dst (.pointer (some p))) w→Q (.panic c) a w:=by intro _ _ _ h;exact h):qp P md ops Q S ex (fuel+1) listed a w:=KT Z hS ho hw hd hdn hok hQ (Yl.nilCheck hop hx) k
theorem s_on (Z:Fr a n D σ) (i:Nat) (ho:ops[i]?=some o) (h:o.wp P a w (fun a' w'=>(dM ex (listed.setIfInBounds i true)=false→S w')∧qp P md ops Q S ex fuel (listed.setIfInBounds i true) a' w') Q) (hr:Region.ready md ops listed=[i]:=by kernel_rfl) (hw:dL ops σ o=some true:=by exact rfl):qp P md ops Q S ex (fuel+1) listed a w:=zc [i] hr rfl (all_cons (qq Z ho hw h) all_nil)
theorem lQ {f:FuncId} {xs:Array Operand} {ts:Array TypeId} {V:Option Addr→Nat→Value} {m sz:Nat} {e:TypeId} {ys:List Value} (Z:Fr a n D σ) (E:Mem W w fs) (vs:List Value) (hC:Calls P f vs.toArray w (fun r w'=>(∃A c,r= .returned (V A c)∧w'.ownsRow w.heap.size e sz (.slice A m c) m ys∧m≤c)∧Below w.heap.size w w'))
  (k:∀A c w',m≤c→Mem W w' (.row (.slice A m c) m ys e sz::fs)→∀a',Fr a' n D ((d,V A c)::σ)→K a' w') (hop:o.op= .call {callee:= .value (.func f),args:=xs,argTypes:=ts}:=by exact rfl) (hd:o.dst=some d:=by exact rfl) (hv:looks σ xs.toList=some vs:=by kernel_rfl) (hf:callable P f=true:=by kernel_rfl) (hdn:d<n:=by decide):o.wp P a w K Q:=
 rz Z vs hop hd hC (fun e w' ⟨⟨A,c,h1,h2,h3⟩,h4⟩=>⟨_,h1,fun a' Z=>k A c w' h3 (E.bq h4 h2) a' Z⟩) hv hf hdn
theorem MX {f:FuncId} {xs:Array Operand} {ts:Array TypeId} (Z:Fr a n D σ) (vs:List Value) (hC:Calls P f vs.toArray w (fun r w'=>r= .returned v∧Mem W w' fs')) (k:∀w',Mem W w' fs'→∀a',Fr a' n D ((d,v)::σ)→K a' w') (hop:o.op= .call {callee:= .value (.func f),args:=xs,argTypes:=ts}:=by exact rfl) (hd:o.dst=some d:=by exact rfl) (hv:looks σ xs.toList=some vs:=by kernel_rfl) (hf:callable P f=true:=by kernel_rfl) (hdn:d<n:=by decide):o.wp P a w K Q:=
 rz Z vs hop hd hC (fun e w' ⟨h1,h2⟩=>⟨_,h1,k w' h2⟩) hv hf hdn
theorem xO {f N:Nat} {fn:Func} {c:Code} {R:Ending→World→Prop} (hf:P.funcs[f]?=some fn) (vs:List Value) (σ0:List (Nat×Value)) (k:∀a,Fr a N [] σ0→c.wp P (bodyPost P fn R) a w) (hb:fn.body=some c:=by exact rfl) (hn:fn.ntmps=N:=by exact rfl) (hl:decide (vs.length≤N)=true:=by kernel_rfl) (h0:EZ 0 vs=σ0:=by exact rfl):Calls P f vs.toArray w R:=qbv hf hb hn hl h0 k
theorem Mem.pk (h:Mem W w fs) (is:List Nat) (hn:is.Nodup:=by decide) (he:Go.Proofs.YtekiimhdnigmcaaGreatDoor.picks fs is=fs':=by exact rfl):Mem W w fs':=h.picks is hn he
theorem Mem.pt (h:Mem W w fs) (n:Nat) (is:List Nat) (hn:is.Nodup:=by decide) (hlt:(is.all (· <n))=true:=by decide) (he:Go.Proofs.YtekiimhdnigmcaaGreatDoor.picks fs is++fs.drop n=fs':=by exact rfl):Mem W w fs':=h.q9z n is hn hlt he
theorem xP (Z:Fr a n D σ) (E:Mem W w fs) {e:TypeId} (cs:Array Value) (k:∀a' w' g,Fr a' n D ((d,.pointer (some ⟨g,0,none⟩))::σ)→Mem W w' (.blk g cs e::fs)→K a' w') (hop:o.op= .alloc e:=by exact rfl) (hz:CG P e=some cs:=by kernel_rfl) (hd:o.dst=some d:=by exact rfl) (hdn:d<n:=by decide):o.wp P a w K Q:=VE Z E hop hz hd hdn k
theorem lS (Z:Fr a n D σ) (E:Mem W w fs) (i:Nat) {t:TypeId} {x y:Operand} {g off:Nat} {cs:Array Value} {tb:TypeId} (k:∀w',Mem W w' (fs.set i (.blk g (cs.setIfInBounds off v) tb))→K a w') (hop:o.op= .store t x y:=by exact rfl) (hd:o.dst=none:=by exact rfl) (hx:look σ x=some (.pointer (some ⟨g,off,none⟩)):=by exact rfl) (hy:look σ y=some v:=by exact rfl) (hs:(P.info? t).map (·.size)=some 1:=by kernel_rfl) (hv:v.oneCell'=true:=by exact rfl) (hi:fs[i]?=some (.blk g cs tb):=by exact rfl) (ho:off<cs.size:=by simp):o.wp P a w K Q:=Sw Z E hop hd hx hy hs hv hi ho k
theorem lT {t len e:Nat} {ps:Array (Nat×Operand)} {z:Value} {size bytes:Nat} (Z:Fr a n D σ) (E:Mem W w fs) (ei:EI P t e z size bytes) (vs:List (Nat×Value)) (cs:Array Value) (k:∀a' w' g,Fr a' n D ((d,.slice (some ⟨g,0,none⟩) len len)::σ)→Mem W w' (.blk g cs e::fs)→K a' w') (hop:o.op= .buildSlice t len ps:=by exact rfl) (hl:decide (0<len∧len*size≤16777216)=true:=by decide) (hv:Dk σ ps.toList=some vs:=by exact rfl)
  (hf:Instr.fill (fun i=>some (i*size,size)) (Sy z.cells (len*size)) vs=some cs:=by kernel_rfl) (hd:o.dst=some d:=by exact rfl) (hdn:d<n:=by decide):o.wp P a w K Q:=qy1 Z E hop ei hl hv hf hd hdn k
section
variable {fn:Func} {R:Ending→World→Prop} {t1 t2 t3:Nat} {v1 v2 v3:Value}
theorem jB (hr:fn.results= #[.tmp t1]) (Z:Fr a n [] σ) (h1:σ.lookup t1=some v1) (hR:R (.returned v1) w):bodyPost P fn R .ret a w:=nN hr Z (.tmp Z h1) hR
theorem sN (hr:fn.results= #[.tmp t1,.tmp t2]) (Z:Fr a n [] σ) (h1:σ.lookup t1=some v1) (h2:σ.lookup t2=some v2) (hR:R (.returned (.tuple #[v1,v2])) w):bodyPost P fn R .ret a w:=jc hr Z (.tmp Z h1) (.tmp Z h2) hR
end
end
section
variable {α:Type}
inductive At:List α→α→Prop
 |z {a:α} {l:List α}:At (a::l) a
 |s {a b:α} {l:List α} (h:At l a):At (b::l) a
inductive rE (a b:α):List α→List α→Prop
 |z {l:List α}:rE a b (a::l) (b::l)
 |s {c:α} {l m:List α} (h:rE a b l m):rE a b (c::l) (c::m)
inductive xQ:List α→List α→Prop
 |n {l:List α}:xQ l l
 |t {a:α} {l m:List α} (h:xQ l m):xQ (a::l) (a::m)
 |f {a:α} {l m:List α} (h:xQ l m):xQ (a::l) m
theorem At.get {l:List α} {a:α} (h:At l a):∃i:Nat,l[i]?=some a:=by
 induction h with
 |z=>exact ⟨0,rfl⟩
 |s _ ih=>obtain ⟨i,hi⟩:=ih;exact ⟨i+1,by simpa using hi⟩
theorem rE.get {a b:α} {l m:List α} (h:rE a b l m):∃i:Nat,l[i]?=some a∧m=l.set i b:=by
 induction h with
 |z=>exact ⟨0,rfl,rfl⟩
 |s _ ih=>obtain ⟨i,hi,rfl⟩:=ih;exact ⟨i+1,by simpa using hi,rfl⟩
theorem xQ.sub {l m:List α} (h:xQ l m):m.Sublist l:=by
 induction h with
 |n=>exact List.Sublist.refl _
 |t _ ih=>exact ih.cons₂ _
 |f _ ih=>exact ih.cons _
variable {a b x1 x2 x3 x4 x5 x6 x7 x8 x9 y1 y2:α} {l m:List α}
theorem O0:At (a::l) a:= .z
theorem O1:At (x1::a::l) a:= .s .z
theorem O2:At (x1::x2::a::l) a:= .s O1
theorem O3:At (x1::x2::x3::a::l) a:= .s O2
theorem O4:At (x1::x2::x3::x4::a::l) a:= .s O3
theorem O5:At (x1::x2::x3::x4::x5::a::l) a:= .s O4
theorem O6:At (x1::x2::x3::x4::x5::x6::a::l) a:= .s O5
theorem O7:At (x1::x2::x3::x4::x5::x6::x7::a::l) a:= .s O6
theorem O8:At (x1::x2::x3::x4::x5::x6::x7::x8::a::l) a:= .s O7
theorem bg:rE a b (a::l) (b::l):= .z
theorem gQ:rE a b (x1::a::l) (x1::b::l):= .s .z
theorem gH:rE a b (x1::x2::a::l) (x1::x2::b::l):= .s gQ
theorem xR:rE a b (x1::x2::x3::a::l) (x1::x2::x3::b::l):= .s gH
theorem sO:rE a b (x1::x2::x3::x4::a::l) (x1::x2::x3::x4::b::l):= .s xR
theorem Hf:rE a b (x1::x2::x3::x4::x5::a::l) (x1::x2::x3::x4::x5::b::l):= .s sO
theorem SE:rE a b (x1::x2::x3::x4::x5::x6::a::l) (x1::x2::x3::x4::x5::x6::b::l):= .s Hf
theorem MZ:rE a b (x1::x2::x3::x4::x5::x6::x7::a::l) (x1::x2::x3::x4::x5::x6::x7::b::l):= .s SE
theorem O8':rE a b (x1::x2::x3::x4::x5::x6::x7::x8::a::l) (x1::x2::x3::x4::x5::x6::x7::x8::b::l):= .s MZ
theorem O9':rE a b (x1::x2::x3::x4::x5::x6::x7::x8::x9::a::l) (x1::x2::x3::x4::x5::x6::x7::x8::x9::b::l):= .s O8'
end
def nth {α:Type}:List α→Nat→Option α
 |[],_=>none
 |x::_,0=>some x
 |_::r,n+1=>nth r n
theorem qza {α:Type}:∀(l:List α) (i:Nat),nth l i=l[i]?
 |[],_=>rfl
 |_::_,0=>rfl
 |_::r,n+1=>by rw [List.getElem?_cons_succ];exact qza r n
theorem SF {α:Type} {l:Array α} {i:Nat} {x:α} (h:nth l.toList i=some x):l[i]?=some x:=by
 rw [qza] at h;simpa using h
def ko:Go.IntKind→Option Nat
 | .i8=>some 127| .i16=>some 32767| .i32=>some 2147483647| .i64=>some 9223372036854775807
 | .u8=>some 255| .u16=>some 65535| .u32=>some 4294967295| .u64=>some 18446744073709551615
theorem KX {k:Go.IntKind} {B m:Nat} (hB:ko k=some B) (h:m≤B):Go.IntKind.wrap k (m:Int)=(m:Int):=
 Dl k (Nat.le_trans h (by cases k<;>(injection hB with hB;subst hB;exact Nat.le_refl _)))
section
variable {P:Program} {ops o2:Array Oper} {Q:Exit→Act→World→Prop} {a:Act} {W w:World} {n i j d d2:Nat} {D:List Deferred} {σ σ':List (Nat×Value)} {o o':Oper} {op:Op} {v v1 v2 v3:Value} {X:Act→World→Prop} {fs fs':List Fact} {p q:Nat×Value}
def JJ (W w:World) (n:Nat) (D:List Deferred) (σ:List (Nat×Value)) (fs:List Fact) (X:Act→World→Prop):Prop:=∀a,Fr a n D σ→Mem W w fs→X a w
theorem Jb (Z:Fr a n D σ) (E:Mem W w fs) (h:JJ W w n D σ fs X):X a w:=h a Z E
theorem Fr.qA {xs:List (Nat×Value)} (h:Fr a n D (q::(xs++σ))) (hn:(xs.all fun p=>p.1==q.1||(σ.lookup p.1).isNone)=true):Fr a n D (q::σ):=by
 refine ⟨h.size,h.defers,fun t v hv=>h.slot t v ?_⟩
 obtain ⟨q1,q2⟩:=q
 simp only [List.lookup_cons] at hv⊢
 split at hv
 ·exact hv
 ·rename_i e
  rw [MJ]
  cases hl:xs.lookup t with
  |none=>exact hv
  |some u=>
   exfalso
   obtain ⟨r,hr,hrt⟩:=Sn (MK hl)
   have:=List.all_eq_true.1 hn r hr
   rw [hrt,Bool.or_eq_true] at this
   rcases this with h1|h1
   ·simp only [e] at h1;cases h1
   ·rw [hv] at h1;cases h1
theorem Fr.qB {xs:List (Nat×Value)} (h:Fr a n D (xs++σ)) (hn:(xs.all fun p=>(σ.lookup p.1).isNone)=true):Fr a n D σ:=by
 refine ⟨h.size,h.defers,fun t v hv=>h.slot t v ?_⟩
 rw [MJ]
 cases hl:xs.lookup t with
 |none=>exact hv
 |some u=>
  exfalso
  obtain ⟨r,hr,hrt⟩:=Sn (MK hl)
  have:=List.all_eq_true.1 hn r hr
  rw [hrt,hv] at this
  cases this
section
variable {p1 p2 p3 p4 p5 p6 p7 p8:Nat×Value}
theorem aQ (h:([p1].all fun p=>p.1==q.1||(σ.lookup p.1).isNone)=true:=by kernel_rfl) (k:JJ W w n D (q::σ) fs X):JJ W w n D (q::p1::σ) fs X:=fun a Z=>k a (Z.qA (xs:=[p1]) h)
theorem aT (h:([p1,p2].all fun p=>p.1==q.1||(σ.lookup p.1).isNone)=true:=by kernel_rfl) (k:JJ W w n D (q::σ) fs X):JJ W w n D (q::p1::p2::σ) fs X:=fun a Z=>k a (Z.qA (xs:=[p1,p2]) h)
theorem bQ (h:([p1,p2,p3].all fun p=>p.1==q.1||(σ.lookup p.1).isNone)=true:=by kernel_rfl) (k:JJ W w n D (q::σ) fs X):JJ W w n D (q::p1::p2::p3::σ) fs X:=fun a Z=>k a (Z.qA (xs:=[p1,p2,p3]) h)
theorem eZ (h:([p1,p2,p3,p4].all fun p=>p.1==q.1||(σ.lookup p.1).isNone)=true:=by kernel_rfl) (k:JJ W w n D (q::σ) fs X):JJ W w n D (q::p1::p2::p3::p4::σ) fs X:=fun a Z=>k a (Z.qA (xs:=[p1,p2,p3,p4]) h)
theorem jq (h:([p1,p2,p3,p4,p5].all fun p=>p.1==q.1||(σ.lookup p.1).isNone)=true:=by kernel_rfl) (k:JJ W w n D (q::σ) fs X):JJ W w n D (q::p1::p2::p3::p4::p5::σ) fs X:=fun a Z=>k a (Z.qA (xs:=[p1,p2,p3,p4,p5]) h)
theorem aF (h:([p1,p2,p3,p4,p5,p6].all fun p=>p.1==q.1||(σ.lookup p.1).isNone)=true:=by kernel_rfl) (k:JJ W w n D (q::σ) fs X):JJ W w n D (q::p1::p2::p3::p4::p5::p6::σ) fs X:=fun a Z=>k a (Z.qA (xs:=[p1,p2,p3,p4,p5,p6]) h)
theorem wK (h:([p1].all fun p=>(σ.lookup p.1).isNone)=true:=by kernel_rfl) (k:JJ W w n D σ fs X):JJ W w n D (p1::σ) fs X:=fun a Z=>k a (Z.qB (xs:=[p1]) h)
theorem yN (h:([p1,p2].all fun p=>(σ.lookup p.1).isNone)=true:=by kernel_rfl) (k:JJ W w n D σ fs X):JJ W w n D (p1::p2::σ) fs X:=fun a Z=>k a (Z.qB (xs:=[p1,p2]) h)
theorem Dr (h:([p1,p2,p3].all fun p=>(σ.lookup p.1).isNone)=true:=by kernel_rfl) (k:JJ W w n D σ fs X):JJ W w n D (p1::p2::p3::σ) fs X:=fun a Z=>k a (Z.qB (xs:=[p1,p2,p3]) h)
theorem KY (h:([p1,p2,p3,p4].all fun p=>(σ.lookup p.1).isNone)=true:=by kernel_rfl) (k:JJ W w n D σ fs X):JJ W w n D (p1::p2::p3::p4::σ) fs X:=fun a Z=>k a (Z.qB (xs:=[p1,p2,p3,p4]) h)
theorem E9 (h:([p1,p2,p3,p4,p5].all fun p=>(σ.lookup p.1).isNone)=true:=by kernel_rfl) (k:JJ W w n D σ fs X):JJ W w n D (p1::p2::p3::p4::p5::σ) fs X:=fun a Z=>k a (Z.qB (xs:=[p1,p2,p3,p4,p5]) h)
theorem lH (h:([p1,p2,p3,p4,p5,p6].all fun p=>(σ.lookup p.1).isNone)=true:=by kernel_rfl) (k:JJ W w n D σ fs X):JJ W w n D (p1::p2::p3::p4::p5::p6::σ) fs X:=fun a Z=>k a (Z.qB (xs:=[p1,p2,p3,p4,p5,p6]) h)
end
theorem Mem.sel (h:Mem W w fs) (m:xQ fs fs'):Mem W w fs':=⟨h.below,fun f hf=>h.holds f (m.sub.subset hf),h.apart.sublist m.sub⟩
theorem JM (m:xQ fs fs') (k:JJ W w n D σ fs' X):JJ W w n D σ fs X:=fun a Z E=>k a Z (E.sel m)
def iW (ops:Array Oper) (σ:List (Nat×Value)) (n i:Nat):Option (Nat×Op):=match ops[i]? with
 |some o=>match dL ops σ o,o.dst with
  |some true,some d=>if d<n then some (d,o.op) else none
  |_,_=>none
 |none=>none
theorem M0 (h:iW ops σ n i=some (d,op)):∃o,ops[i]?=some o∧dL ops σ o=some true∧o.dst=some d∧d<n∧o.op=op:=by
 unfold iW at h
 split at h
 ·rename_i o ho
  split at h
  ·rename_i d' hw hd
   split at h
   ·rename_i hdn
    injection h with h
    injection h with h1 h2
    subst h1;subst h2
    exact ⟨o,ho,hw,hd,hdn,rfl⟩
   ·cases h
  ·cases h
 ·cases h
theorem JJ.yl (h:iW ops σ n i=some (d,op)) (hy:∀o:Oper,o.op=op→Yl P (fun wS=>Mem W wS fs) σ o v) (k:JJ W w n D ((d,v)::σ) fs (qk P ops Q (i+1))):JJ W w n D σ fs (qk P ops Q i):=by
 obtain ⟨o,ho,hw,hd,hdn,he⟩:=M0 h
 exact fun _ Z E=>Sm (S:=fun wS=>Mem W wS fs) Z E ho hw hd hdn (hy o he) fun a Z=>k a Z E
theorem JJ.xS (h:iW ops σ n i=some (d,op)) (k:∀(o:Oper) a,o.op=op→o.dst=some d→d<n→Fr a n D σ→Mem W w fs→o.wp P a w (qk P ops Q (i+1)) Q):JJ W w n D σ fs (qk P ops Q i):=by
 obtain ⟨o,ho,hw,hd,hdn,he⟩:=M0 h
 exact fun a Z E=>MI Z ho hw (k o a he hd hdn Z E)
theorem Jp (m:Nat) (h:CF P ops n m i σ=some σ':=by exact rfl) (k:JJ W w n D σ' fs (qk P ops Q (i+m))):JJ W w n D σ fs (qk P ops Q i):=
 fun _ Z E=>Vr m i Z h rfl fun a' zB=>k a' zB E
theorem Jv (m:Nat) (new:List (Nat×Value)) (h:(CF P ops n m i σ).map (fun s=>(thin s σ new,new.map fun p=>s.lookup p.1))=some (true,new.map fun p=>some p.2):=by kernel_rfl) (k:JJ W w n D (new++σ) fs (qk P ops Q (i+m))):JJ W w n D σ fs (qk P ops Q i):=
 fun _ Z E=>fp Z m i new (fun a' zB=>k a' zB E) h
theorem Jf (off:Nat) {s f g b:Nat} {x:Operand} (h:iW ops σ n i=some (d,.fieldAddr s x f):=by exact rfl) (hx:look σ x=some (.pointer (some ⟨g,b,none⟩)):=by exact rfl) (hf:KP P s f=some off:=by kernel_rfl) (k:JJ W w n D ((d,.pointer (some ⟨g,b+off,none⟩))::σ) fs (qk P ops Q (i+1))):JJ W w n D σ fs (qk P ops Q i):=
 JJ.yl h (fun o ho=>Yl.pure (by rw [ho];simp only [xM,hx,hf];rw [Addr.add_mid])) k
theorem Jc {g off:Nat} {x:Operand} {t tb:TypeId} {cs:Array Value} (O:At fs (.blk g cs tb)) (h:iW ops σ n i=some (d,.load t x):=by exact rfl) (hx:look σ x=some (.pointer (some ⟨g,off,none⟩)):=by exact rfl) (hv:nth cs.toList off=some v:=by exact rfl) (ht:jl P t=true:=by kernel_rfl) (k:JJ W w n D ((d,v)::σ) fs (qk P ops Q (i+1))):JJ W w n D σ fs (qk P ops Q i):=
 JJ.yl h (fun o ho=>Yl.qj ho hx ht fun _ h=>let ⟨_,hi⟩:=O.get;h.cell hi (SF hv)) k
theorem Jg (off:Nat) {s f g b:Nat} {x:Operand} {t tb:TypeId} {cs:Array Value} (O:At fs (.blk g cs tb)) (h:iW ops σ n i=some (d,.fieldAddr s x f):=by exact rfl) (hx:look σ x=some (.pointer (some ⟨g,b,none⟩)):=by exact rfl) (h2:iW ops ((d,.pointer (some ⟨g,b+off,none⟩))::σ) n (i+1)=some (d2,.load t (.tmp d)):=by exact rfl) (hv:nth cs.toList (b+off)=some v:=by exact rfl)
 (hk:(jl P t&& (KP P s f==some off&& (d2==d||(σ.lookup d).isNone)))=true:=by kernel_rfl) (k:JJ W w n D ((d2,v)::σ) fs (qk P ops Q (i+2))):JJ W w n D σ fs (qk P ops Q i):=by
 simp only [Bool.and_eq_true,beq_iff_eq] at hk
 refine Jf off h hx hk.2.1 (Jc O h2 ?_ hv hk.1 (aQ (by simpa [Bool.beq_comm] using hk.2.2) k))
 simp [look]
theorem Jl {x:Operand} {t:TypeId} {A:Option Addr} {m c:Nat} (h:iW ops σ n i=some (d,.call {callee:= .builtin .len,args:= #[x],argTypes:= #[t]}):=by exact rfl) (hx:look σ x=some (.slice A m c):=by exact rfl) (ht:uU P t=true:=by kernel_rfl) (k:JJ W w n D ((d,.int .i64 (m:Int))::σ) fs (qk P ops Q (i+1))):JJ W w n D σ fs (qk P ops Q i):=
 JJ.yl h (fun o ho=>Yl.len ho hx ht) k
theorem Jn {x:Operand} {p:Addr} (h:iW ops σ n i=some (d,.nilCheck x):=by exact rfl) (hx:look σ x=some (.pointer (some p)):=by exact rfl) (k:JJ W w n D ((d,.pointer (some p))::σ) fs (qk P ops Q (i+1))):JJ W w n D σ fs (qk P ops Q i):=
 JJ.yl h (fun o ho=>Yl.nilCheck ho hx) k
theorem Jx {x:Operand} {e:Nat} {vs:Array Value} (h:iW ops σ n i=some (d,.extract x e):=by exact rfl) (hx:look σ x=some (.tuple vs):=by exact rfl) (hv:nth vs.toList e=some v:=by exact rfl) (k:JJ W w n D ((d,v)::σ) fs (qk P ops Q (i+1))):JJ W w n D σ fs (qk P ops Q i):=
 JJ.yl h (fun o ho=>Yl.pure (by rw [ho];simp only [xM,hx];exact SF hv)) k
theorem Jy (ho:ops[i]?=some o:=by exact rfl) (hw:dL ops σ o=some true:=by exact rfl) (hd:o.dst=some d:=by exact rfl) (hdn:d<n:=by decide) (h:Yl P (fun wS=>Mem W wS fs) σ o v) (k:JJ W w n D ((d,v)::σ) fs (qk P ops Q (i+1))):JJ W w n D σ fs (qk P ops Q i):=
 fun _ Z E=>Sm (S:=fun wS=>Mem W wS fs) Z E ho hw hd hdn h fun a Z=>k a Z E
theorem Jo (u:Value) (h:v=u) (k:JJ W w n D ((d,u)::σ) fs X):JJ W w n D ((d,v)::σ) fs X:=by subst h;exact k
section
variable {x y:Operand} {t t2:TypeId} {k:Go.IntKind} {m p B:Nat}
theorem JJ.bin {bo:BinOp} {u:Value} {a1 a2:Value} (h:iW ops σ n i=some (d,.binOp bo t x y t2)) (hx:look σ x=some a1) (hy:look σ y=some a2) (hn:ME a1=true) (hb:qed bo a1 a2=some v) (e:v=u) (K:JJ W w n D ((d,u)::σ) fs (qk P ops Q (i+1))):JJ W w n D σ fs (qk P ops Q i):=by
 subst e
 exact JJ.yl h (fun o ho=>Yl.pure (by rw [ho];simp only [xM,hx,hy,hn,if_true];exact hb)) K
theorem qzb (k:Go.IntKind) (a b:Int):qed .add (.int k a) (.int k b)=some (.int k (k.wrap (a+b))):=by simp [qed,Sk]
theorem qzc (k:Go.IntKind) (a b:Int):qed .sub (.int k a) (.int k b)=some (.int k (k.wrap (a-b))):=by simp [qed,Sk]
theorem Ja (h:iW ops σ n i=some (d,.binOp .add t x y t2):=by exact rfl) (hx:look σ x=some (.int k (m:Int)):=by exact rfl) (hy:look σ y=some (.int k (p:Int)):=by exact rfl) (hB:ko k=some B:=by exact rfl) (hb:m+p≤B:=by omega) (K:JJ W w n D ((d,.int k ((m+p:Nat):Int))::σ) fs (qk P ops Q (i+1))):JJ W w n D σ fs (qk P ops Q i):=
 JJ.bin h hx hy rfl (qzb _ _ _) (by rw [show ((m:Int)+(p:Int))=((m+p:Nat):Int) from rfl,KX hB hb]) K
theorem bn (p:Nat) {z:Int} (h:iW ops σ n i=some (d,.binOp .add t x y t2):=by exact rfl) (hx:look σ x=some (.int k (m:Int)):=by exact rfl) (hy:look σ y=some (.int k z):=by exact rfl) (hz:z=(p:Int):=by exact rfl) (hB:ko k=some B:=by exact rfl) (hb:m+p≤B:=by omega) (K:JJ W w n D ((d,.int k ((m+p:Nat):Int))::σ) fs (qk P ops Q (i+1))):JJ W w n D σ fs (qk P ops Q i):=by
 subst hz;exact Ja h hx hy hB hb K
theorem Js (h:iW ops σ n i=some (d,.binOp .sub t x y t2):=by exact rfl) (hx:look σ x=some (.int k (m:Int)):=by exact rfl) (hy:look σ y=some (.int k (p:Int)):=by exact rfl) (hB:ko k=some B:=by exact rfl) (hb:p≤m∧m-p≤B:=by omega) (K:JJ W w n D ((d,.int k ((m-p:Nat):Int))::σ) fs (qk P ops Q (i+1))):JJ W w n D σ fs (qk P ops Q i):=
 JJ.bin h hx hy rfl (qzc _ _ _) (by rw [show ((m:Int)- (p:Int))=((m-p:Nat):Int) by omega,KX hB hb.2]) K
theorem yO (p:Nat) {z:Int} (h:iW ops σ n i=some (d,.binOp .sub t x y t2):=by exact rfl) (hx:look σ x=some (.int k (m:Int)):=by exact rfl) (hy:look σ y=some (.int k z):=by exact rfl) (hz:z=(p:Int):=by exact rfl) (hB:ko k=some B:=by exact rfl) (hb:p≤m∧m-p≤B:=by omega) (K:JJ W w n D ((d,.int k ((m-p:Nat):Int))::σ) fs (qk P ops Q (i+1))):JJ W w n D σ fs (qk P ops Q i):=by
 subst hz;exact Js h hx hy hB hb K
def Dt (P:Program) (s t:TypeId):Option Go.IntKind:=match P.underlying s,P.underlying t with
 |some _,some (.int k)=>some k
 |_,_=>none
theorem Jw (k:Go.IntKind) {k0:Go.IntKind} (h:iW ops σ n i=some (d,.convert t t2 x):=by exact rfl) (hx:look σ x=some (.int k0 (m:Int)):=by exact rfl) (hk:Dt P t t2=some k:=by kernel_rfl) (hB:ko k=some B:=by exact rfl) (hb:m≤B:=by omega) (K:JJ W w n D ((d,.int k (m:Int))::σ) fs (qk P ops Q (i+1))):JJ W w n D σ fs (qk P ops Q i):=by
 refine JJ.yl h (fun o ho=>Yl.pure (by
  rw [ho]
  unfold Dt at hk
  split at hk
  ·rename_i q1 q2 h1 h2
   injection hk with hk
   subst hk
   simp only [xM,h1,h2,hx,KX hB hb]
  ·cases hk)) K
end
theorem Ji {p:Prop} {inst:Decidable p} (h1:p→JJ W w n D ((d,.bool true)::σ) fs X) (h2:¬p→JJ W w n D ((d,.bool false)::σ) fs X):JJ W w n D ((d,.bool (@decide p inst))::σ) fs X:=by
 by_cases h:p
 ·rw [decide_eq_true h];exact h1 h
 ·rw [decide_eq_false h];exact h2 h
theorem VX {p:Prop} {inst:Decidable p} (h1:¬p→JJ W w n D ((d,.bool true)::σ) fs X) (h2:p→JJ W w n D ((d,.bool false)::σ) fs X):JJ W w n D ((d,.bool (!@decide p inst))::σ) fs X:=by
 by_cases h:p
 ·rw [decide_eq_true h];exact h2 h
 ·rw [decide_eq_false h];exact h1 h
theorem Je {α:Type} {ib:BEq α} [LawfulBEq α] {x y:α} (h1:x=y→JJ W w n D ((d,.bool true)::σ) fs X) (h2:x≠y→JJ W w n D ((d,.bool false)::σ) fs X):JJ W w n D ((d,.bool (x==y))::σ) fs X:=by
 cases h:x==y
 ·exact h2 (ne_of_beq_false h)
 ·exact h1 (eq_of_beq h)
theorem Jh {α:Type} {ib:BEq α} [LawfulBEq α] {x y:α} (h1:x≠y→JJ W w n D ((d,.bool true)::σ) fs X) (h2:x=y→JJ W w n D ((d,.bool false)::σ) fs X):JJ W w n D ((d,.bool (x !=y))::σ) fs X:=by
 cases h:x !=y
 ·exact h2 (bne_eq_false_iff_eq.1 h)
 ·exact h1 (bne_iff_ne.1 h)
theorem Ju {b:Bool} (h1:b=true→JJ W w n D ((d,.bool true)::σ) fs X) (h2:b=false→JJ W w n D ((d,.bool false)::σ) fs X):JJ W w n D ((d,.bool b)::σ) fs X:=by
 cases b
 ·exact h2 rfl
 ·exact h1 rfl
theorem Jr {id:Nat} {c:Code} {Q':Exit→Act→World→Prop} (hi:ops.size=i:=by exact rfl) (h:∀a w,Q' .normal a w=Code.wp P (.seq (.region id o2 false) c) Q a w:=by exact fun _ _=>rfl) (k:JJ W w n D σ fs (qk P o2 (Exit.then (Code.wp P c Q) Q) 0)):JJ W w n D σ fs (qk P ops Q' i):=
 fun a Z E=>Dh hi (by rw [h];exact wp_seq (zg (k a Z E)))
theorem Jq (hi:ops.size=i:=by exact rfl) (k:JJ W w n D σ fs (Q .normal)):JJ W w n D σ fs (qk P ops Q i):=fun a Z E=>Dh hi (k a Z E)
theorem Jj {c:Code} {Q':Exit→Act→World→Prop} (hi:ops.size=i:=by exact rfl) (h:∀a w,Q' .normal a w=Code.wp P c Q a w:=by exact fun _ _=>rfl) (k:JJ W w n D σ fs (Code.wp P c Q)):JJ W w n D σ fs (qk P ops Q' i):=fun a Z E=>Dh hi (by rw [h];exact k a Z E)
theorem JR {id:Nat} (k:JJ W w n D σ fs (qk P ops Q 0)):JJ W w n D σ fs (Code.wp P (.region id ops false) Q):=fun a Z E=>zg (k a Z E)
theorem JQ {c c2:Code} (k:JJ W w n D σ fs (Code.wp P c (Exit.then (Code.wp P c2 Q) Q))):JJ W w n D σ fs (Code.wp P (.seq c c2) Q):=fun a Z E=>wp_seq (k a Z E)
theorem JP {id:Nat} {c:Code} (k:JJ W w n D σ fs (qk P ops (Exit.then (Code.wp P c Q) Q) 0)):JJ W w n D σ fs (Code.wp P (.seq (.region id ops false) c) Q):=fun a Z E=>wp_seq (zg (k a Z E))
theorem JG {Y:Act→World→Prop} {c:Code} (h:∀a w,Y a w=Code.wp P c Q a w:=by exact fun _ _=>rfl) (k:JJ W w n D σ fs (Code.wp P c Q)):JJ W w n D σ fs Y:=fun a Z E=>by rw [h];exact k a Z E
theorem aG {c:Code} {Q':Exit→Act→World→Prop} (h:∀a w,Q' .normal a w=Code.wp P c Q a w:=by exact fun _ _=>rfl) (k:JJ W w n D σ fs (Code.wp P c Q)):JJ W w n D σ fs (Code.wp P .skip Q'):=fun a Z E=>wp_skip (by rw [h];exact k a Z E)
theorem JT {c:Operand} {x y:Code} (hc:look σ c=some (.bool true):=by exact rfl) (k:JJ W w n D σ fs (Code.wp P x Q)):JJ W w n D σ fs (Code.wp P (.cond c x y) Q):=fun a Z E=>qy2 Z hc (k a Z E)
theorem JF {c:Operand} {x y:Code} (hc:look σ c=some (.bool false):=by exact rfl) (k:JJ W w n D σ fs (Code.wp P y Q)):JJ W w n D σ fs (Code.wp P (.cond c x y) Q):=fun a Z E=>VJ Z hc (k a Z E)
theorem JB {id:Nat} {c:Code} (k:JJ W w n D σ fs (Code.wp P c (Exit.inBlock id Q))):JJ W w n D σ fs (Code.wp P (.block id c) Q):=fun a Z E=>wp_block (k a Z E)
theorem JS (k:JJ W w n D σ fs (Q .normal)):JJ W w n D σ fs (Code.wp P .skip Q):=fun a Z E=>wp_skip (k a Z E)
theorem JX {id:Nat} (k:JJ W w n D σ fs (Q (.exit id))):JJ W w n D σ fs (Code.wp P (.exit id) Q):=fun a Z E=>wp_exit (k a Z E)
theorem JZ (k:JJ W w n D σ fs (Q .ret)):JJ W w n D σ fs (Code.wp P .ret Q):=fun a Z E=>wp_ret (k a Z E)
section
variable {fn:Func} {R:Ending→World→Prop} {t1 t2 t3:Nat}
theorem aH (hX:∀a w,bodyPost P fn R .ret a w→X a w:=by exact fun _ _ h=>h) (hr:fn.results= #[.tmp t1]:=by exact rfl) (h1:σ.lookup t1=some v1:=by exact rfl) (hR:Mem W w fs→R (.returned v1) w):JJ W w n [] σ fs X:=fun _ Z E=>hX _ _ (jB hr Z h1 (hR E))
theorem uI (hX:∀a w,bodyPost P fn R .ret a w→X a w:=by exact fun _ _ h=>h) (hr:fn.results= #[.tmp t1]:=by exact rfl) (h1:σ.lookup t1=some v1:=by exact rfl) (hR:Mem W w fs→R (.returned v1) w:=by exact fun M=>⟨rfl,M.below⟩):JJ W w n [] σ fs X:=fun _ Z E=>hX _ _ (jB hr Z h1 (hR E))
theorem bW (hX:∀a w,bodyPost P fn R .ret a w→X a w:=by exact fun _ _ h=>h) (hr:fn.results= #[.tmp t1,.tmp t2]:=by exact rfl) (h1:σ.lookup t1=some v1:=by exact rfl) (h2:σ.lookup t2=some v2:=by exact rfl) (hR:Mem W w fs→R (.returned (.tuple #[v1,v2])) w):JJ W w n [] σ fs X:=fun _ Z E=>hX _ _ (sN hr Z h1 h2 (hR E))
end
theorem JA (cs:Array Value) {e:TypeId} (h:iW ops σ n i=some (d,.alloc e):=by exact rfl) (hz:CG P e=some cs:=by kernel_rfl) (k:∀w' g,JJ W w' n D ((d,.pointer (some ⟨g,0,none⟩))::σ) (.blk g cs e::fs) (qk P ops Q (i+1))):JJ W w n D σ fs (qk P ops Q i):=
 JJ.xS h fun _ _ he hd hdn Z E=>VE Z E he hz hd hdn fun a w' g Z E=>k w' g a Z E
theorem JE {cs:Array Value} {e:TypeId} {x:Operand} (h:iW ops σ n i=some (d,.box e x):=by exact rfl) (hx:look σ x=some (.agg cs):=by exact rfl) (k:∀w' g,JJ W w' n D ((d,.pointer (some ⟨g,0,none⟩))::σ) (.blk g cs e::fs) (qk P ops Q (i+1))):JJ W w n D σ fs (qk P ops Q i):=
 JJ.xS h fun _ _ he hd hdn Z E=>EW Z E he hx rfl hd hdn fun a w' g Z E=>k w' g a Z E
theorem M4 {e:TypeId} {x:Operand} (h:iW ops σ n i=some (d,.box e x):=by exact rfl) (hx:look σ x=some v:=by exact rfl) (hc:v.cells= #[v]:=by exact rfl) (k:∀w' g,JJ W w' n D ((d,.pointer (some ⟨g,0,none⟩))::σ) (.blk g #[v] e::fs) (qk P ops Q (i+1))):JJ W w n D σ fs (qk P ops Q i):=
 JJ.xS h fun _ _ he hd hdn Z E=>EW Z E he hx hc hd hdn fun a w' g Z E=>k w' g a Z E
theorem JW {t:TypeId} {x y:Operand} {g off:Nat} {l m:List Value} {v0:Value} {tb:TypeId} (O:rE (.blk g l.toArray tb) (.blk g m.toArray tb) fs fs') (U:rE v0 v l m) (ho:ops[i]?=some o:=by exact rfl) (hop:o.op= .store t x y:=by exact rfl) (hw:dL ops σ o=some true:=by exact rfl) (hd:o.dst=none:=by exact rfl) (hx:look σ x=some (.pointer (some ⟨g,off,none⟩)):=by exact rfl) (hy:look σ y=some v:=by exact rfl) (hs:(P.info? t).map (·.size)=some 1:=by kernel_rfl) (hv:v.oneCell'=true:=by exact rfl)
 (hu:m=l.set off v:=by exact rfl) (hl:Nat.blt off l.length=true:=by exact rfl) (k:∀w',JJ W w' n D σ fs' (qk P ops Q (i+1))):JJ W w n D σ fs (qk P ops Q i):=by
 obtain ⟨j,hj,rfl⟩:=O.get
 refine fun a Z E=>MI Z ho hw (Sw Z E hop hd hx hy hs hv hj (by simpa using hl) fun w' E=>k w' a Z ?_)
 subst hu
 simpa using E
theorem JV {t:TypeId} {x y:Operand} {g m:Nat} {cs ds:Array Value} {tb:TypeId} (si:SI P t m) (O:rE (.blk g cs tb) (.blk g ds tb) fs fs') (ho:ops[i]?=some o:=by exact rfl) (hop:o.op= .store t x y:=by exact rfl) (hw:dL ops σ o=some true:=by exact rfl) (hd:o.dst=none:=by exact rfl) (hx:look σ x=some (.pointer (some ⟨g,0,none⟩)):=by exact rfl) (hy:look σ y=some (.agg ds):=by exact rfl)
 (hc:cs.size=m:=by exact rfl) (hm:ds.size=m:=by exact rfl) (h1:∀u∈ds.toList,u.oneCell'=true:=by simp [Value.oneCell']) (k:∀w',JJ W w' n D σ fs' (qk P ops Q (i+1))):JJ W w n D σ fs (qk P ops Q i):=by
 obtain ⟨j,hj,rfl⟩:=O.get
 exact fun a Z E=>MI Z ho hw (qk2 Z E hop hd hx hy si hc hm h1 hj fun w' E=>k w' a Z E)
theorem JI {f:FuncId} {xs:Array Operand} {ts:Array TypeId} {vs:List Value} (h0:iW ops σ n i=some (d,.call {callee:= .value (.func f),args:=xs,argTypes:=ts}):=by exact rfl) (hv:looks σ xs.toList=some vs:=by exact rfl) (h:Mem W w fs→Calls P f vs.toArray w (fun r w'=>r= .returned v∧Below w.heap.size w w')) (hf:callable P f=true:=by kernel_rfl)
 (k:∀w',Below w.heap.size w w'→JJ W w' n D ((d,v)::σ) fs (qk P ops Q (i+1))):JJ W w n D σ fs (qk P ops Q i):=
 JJ.xS h0 fun _ _ he hd hdn Z E=>EX Z he hv hf hd hdn (h E) fun _ w' ⟨h1,h2⟩=>⟨v,h1,fun a Z=>k w' h2 a Z (E.call h2)⟩
theorem JL {f:FuncId} {xs:Array Operand} {ts:Array TypeId} {vs:List Value} {R:Ending→World→Prop} (h0:iW ops σ n i=some (d,.call {callee:= .value (.func f),args:=xs,argTypes:=ts}):=by exact rfl) (hv:looks σ xs.toList=some vs:=by exact rfl) (h:Mem W w fs→Calls P f vs.toArray w R) (hf:callable P f=true:=by kernel_rfl)
 (k:Mem W w fs→∀r w',R r w'→∃v,r= .returned v∧∃fs',Mem W w' fs'∧JJ W w' n D ((d,v)::σ) fs' (qk P ops Q (i+1))):JJ W w n D σ fs (qk P ops Q i):=
 JJ.xS h0 fun _ _ he hd hdn Z E=>EX Z he hv hf hd hdn (h E) fun r w' hr=>let ⟨v,h1,_,h3,h4⟩:=k E r w' hr;⟨v,h1,fun a Z=>h4 a Z h3⟩
theorem JK {f:FuncId} {xs:Array Operand} {ts:Array TypeId} {vs:List Value} {V:Option Addr→Nat→Value} {m sz:Nat} {e:TypeId} {ys:List Value} (h0:iW ops σ n i=some (d,.call {callee:= .value (.func f),args:=xs,argTypes:=ts}):=by exact rfl) (hv:looks σ xs.toList=some vs:=by exact rfl) (h:Mem W w fs→Calls P f vs.toArray w (fun r w'=>(∃A c,r= .returned (V A c)∧w'.ownsRow w.heap.size e sz (.slice A m c) m ys∧m≤c)∧Below w.heap.size w w')) (hf:callable P f=true:=by kernel_rfl)
 (k:∀A c w',m≤c→JJ W w' n D ((d,V A c)::σ) (.row (.slice A m c) m ys e sz::fs) (qk P ops Q (i+1))):JJ W w n D σ fs (qk P ops Q i):=
 JJ.xS h0 fun _ _ he hd hdn Z E=>EX Z he hv hf hd hdn (h E) fun r w' ⟨⟨A,c,h1,h2,h3⟩,h4⟩=>⟨_,h1,fun a Z=>k A c w' h3 a Z (E.bq h4 h2)⟩
theorem JO {f:FuncId} {xs:Array Operand} {ts:Array TypeId} {vs:List Value} (h0:iW ops σ n i=some (d,.call {callee:= .value (.func f),args:=xs,argTypes:=ts}):=by exact rfl) (hv:looks σ xs.toList=some vs:=by exact rfl) (h:Mem W w fs→Calls P f vs.toArray w (fun r w'=>r= .returned v∧Mem W w' fs')) (hf:callable P f=true:=by kernel_rfl)
 (k:∀w',JJ W w' n D ((d,v)::σ) fs' (qk P ops Q (i+1))):JJ W w n D σ fs (qk P ops Q i):=
 JJ.xS h0 fun _ _ he hd hdn Z E=>EX Z he hv hf hd hdn (h E) fun r w' ⟨h1,h2⟩=>⟨v,h1,fun a Z=>k w' a Z h2⟩
theorem JU {t len e:Nat} {ps:Array (Nat×Operand)} {vs:List (Nat×Value)} {z:Value} {size bytes:Nat} (ei:EI P t e z size bytes) (cs:Array Value) (h:iW ops σ n i=some (d,.buildSlice t len ps):=by exact rfl) (hl:decide (0<len∧len*size≤16777216)=true:=by decide) (hv:Dk σ ps.toList=some vs:=by exact rfl)
 (hf:Instr.fill (fun i=>some (i*size,size)) (Sy z.cells (len*size)) vs=some cs:=by kernel_rfl) (k:∀w' g,JJ W w' n D ((d,.slice (some ⟨g,0,none⟩) len len)::σ) (.blk g cs e::fs) (qk P ops Q (i+1))):JJ W w n D σ fs (qk P ops Q i):=
 JJ.xS h fun _ _ he hd hdn Z E=>qy1 Z E he ei hl hv hf hd hdn fun a w' g Z E=>k w' g a Z E
theorem JD {s x:Operand} {t e:TypeId} {z:Value} {size bytes m0 m c B:Nat} {A:Option Addr} {xs:List Value} {fa:Option Addr→Nat→List Fact} (news:List Value) (j:Nat) (O:∀A' c',rE (.row v m0 xs e size) (.row (.slice A' (m0+m) c') (m0+m) (xs++news) e size) fs (fa A' c')) (ei:EI P t e z size bytes)
 (h0:iW ops σ n i=some (d,.call {callee:= .builtin .append,args:= #[s,x],argTypes:= #[t,t]}):=by exact rfl) (hs:look σ s=some v:=by exact rfl) (hx:look σ x=some (.slice A m c):=by exact rfl) (hj:fs[j]?=some (.row v m0 xs e size):=by exact rfl) (hu:(fun A' c'=>fs.set j (.row (.slice A' (m0+m) c') (m0+m) (xs++news) e size))=fa:=by kernel_rfl)
 (hr:Mem W w fs→Rd w B size A m news) (h1:∀u∈news,u.oneCell'=true) (hb:(m0+m)*bytes≤140737488355328:=by omega) (h63:m0+m≤9223372036854775807:=by omega)
 (k:∀w' A' c',m0+m≤c'→JJ W w' n D ((d,.slice A' (m0+m) c')::σ) (fa A' c') (qk P ops Q (i+1))):JJ W w n D σ fs (qk P ops Q i):=
 JJ.xS h0 fun _ _ he hd hdn Z E=>qz Z E he ei hs hx hj (hr E) h1 hb h63 hd hdn fun a w' A' c' Z HM' hc=>k w' A' c' hc a Z (by have h:=congrFun (congrFun hu A') c';rw [←h];exact HM')
theorem JH {p:Prop} (h:p) (k:p→JJ W w n D σ fs X):JJ W w n D σ fs X:=k h
section
variable {f N:Nat} {fn:Func} {c:Code} {R:Ending→World→Prop} {u1 u2 u3 u4 u5 u6 u7 u8:Value}
theorem JN0 (hf:P.funcs[f]?=some fn) (N:Nat) (hn:fn.ntmps=N:=by exact rfl) (hb:fn.body=some c:=by exact rfl) (hl:decide (0≤N)=true:=by kernel_rfl) (k:JJ w w N [] [] [] (Code.wp P c (bodyPost P fn R))):Calls P f #[] w R:=
 qbv (vs:=[]) hf hb hn hl rfl fun a Z=>k a Z (Mem.start w)
theorem bZ (hf:P.funcs[f]?=some fn) (N:Nat) (hn:fn.ntmps=N:=by exact rfl) (hb:fn.body=some c:=by exact rfl) (hl:decide (1≤N)=true:=by kernel_rfl) (k:JJ w w N [] [(0,u1)] [] (Code.wp P c (bodyPost P fn R))):Calls P f #[u1] w R:=
 qbv (vs:=[u1]) hf hb hn hl rfl fun a Z=>k a Z (Mem.start w)
theorem jw (hf:P.funcs[f]?=some fn) (N:Nat) (hn:fn.ntmps=N:=by exact rfl) (hb:fn.body=some c:=by exact rfl) (hl:decide (2≤N)=true:=by kernel_rfl) (k:JJ w w N [] [(0,u1),(1,u2)] [] (Code.wp P c (bodyPost P fn R))):Calls P f #[u1,u2] w R:=
 qbv (vs:=[u1,u2]) hf hb hn hl rfl fun a Z=>k a Z (Mem.start w)
theorem Hg (hf:P.funcs[f]?=some fn) (N:Nat) (hn:fn.ntmps=N:=by exact rfl) (hb:fn.body=some c:=by exact rfl) (hl:decide (3≤N)=true:=by kernel_rfl) (k:JJ w w N [] [(0,u1),(1,u2),(2,u3)] [] (Code.wp P c (bodyPost P fn R))):Calls P f #[u1,u2,u3] w R:=
 qbv (vs:=[u1,u2,u3]) hf hb hn hl rfl fun a Z=>k a Z (Mem.start w)
end
end
section
variable {P:Program} {ops o2:Array Oper} {Q:Exit→Act→World→Prop} {a:Act} {W w:World} {n d d2 fuel:Nat} {D:List Deferred} {σ σ':List (Nat×Value)} {o o':Oper} {op:Op} {v v1 v2 v3:Value} {X:Act→World→Prop} {fs gs fs':List Fact} {md:Region.Mode} {listed:Array Bool} {ex:List Nat} {S:World→Prop}
def VV (W w:World) (n:Nat) (D:List Deferred) (σ:List (Nat×Value)) (fs gs:List Fact) (X:Act→World→Prop):Prop:=∀a,Fr a n D σ→Mem W w fs→Mem W w gs→X a w
theorem Vb (Z:Fr a n D σ) (E:Mem W w fs) (HS:Mem W w gs) (h:VV W w n D σ fs gs X):X a w:=h a Z E HS
def Hl (l:Array Bool) (is:List Nat):Array Bool:=is.foldl (fun l i=>l.setIfInBounds i true) l
theorem Vs (m:xQ fs gs) (ex:List Nat) {id f0:Nat} (hf:ops.size=f0:=by exact rfl) (hm:P.follows .mixedOrders=true:=by kernel_rfl) (k:∀w',VV W w' n D σ fs gs (qp P .any ops Q (fun wS=>Mem W wS gs) ex f0 (Array.replicate ops.size false))):JJ W w n D σ fs (Code.wp P (.region id ops true) Q):=
 fun a Z E=>qou hm (fun wS=>Mem W wS gs) ex (by have h:=k w.drew a Z E.drew (E.drew.sel m);subst hf;exact h)
theorem Vd (hr:Region.ready md ops listed=[]:=by kernel_rfl) (k:JJ W w n D σ fs (Q .normal)):VV W w n D σ fs gs (qp P md ops Q S ex fuel listed):=fun a Z E _=>qg hr (k a Z E)
def KZ (P:Program) (ops:Array Oper) (n:Nat):List Nat→List (Nat×Value)→Option (List (Nat×Value))
 |[],σ=>some σ
 |i::is,σ=>match EU P ops n i σ with
  |some σ'=>KZ P ops n is σ'
  |none=>none
def sP (md:Region.Mode) (ops:Array Oper) (ex:List Nat):List Nat→Array Bool→Bool
 |[],_=>true
 |i::is,l=>sK md ops ex l i&&sP md ops ex is (l.setIfInBounds i true)
theorem VY:∀(is:List Nat) {l:Array Bool} {σ σ':List (Nat×Value)},KZ P ops n is σ=some σ'→sP md ops ex is l=true→Dj P md ops n ex is l σ=some (Hl l is,σ')
 |[],_,_,_,h,_=>by injection h with h;subst h;rfl
 | i :: is, l, σ, σ', h, hk => by
  unfold KZ at h
  unfold sP at hk
  rw [Bool.and_eq_true] at hk
  split at h
  ·rename_i s hs
   unfold Dj
   rw [if_pos hk.1,hs]
   exact VY is h hk.2
  ·cases h
theorem Vp (is:List Nat) (h:KZ P ops n is σ=some σ':=by exact rfl) (hk:sP md ops ex is listed=true:=by kernel_rfl) (hQ:∀c (a:Act) d v w,Q (.panic c) (a.put d v) w→Q (.panic c) a w:=by intro _ _ d _ _ h;cases d<;>exact h)
 (k:VV W w n D σ' fs gs (qp P md ops Q S ex fuel (Hl listed is))) (hS:∀w,Mem W w gs→S w:=by exact fun _ h=>h):VV W w n D σ fs gs (qp P md ops Q S ex (fuel+is.length) listed):=
 fun a Z E HS=>Sq hQ is Z (fun _=>hS _ HS) (VY is h hk) fun a Z=>k a Z E HS
theorem Vq (is:List Nat) (new:List (Nat×Value)) (h:(KZ P ops n is σ).map (fun s=>(thin s σ new,new.map fun p=>s.lookup p.1))=some (true,new.map fun p=>some p.2):=by kernel_rfl) (hk:sP md ops ex is listed=true:=by kernel_rfl) (hQ:∀c (a:Act) d v w,Q (.panic c) (a.put d v) w→Q (.panic c) a w:=by intro _ _ d _ _ h;cases d<;>exact h)
 (k:VV W w n D (new++σ) fs gs (qp P md ops Q (fun wS=>Mem W wS gs) ex fuel (Hl listed is))):VV W w n D σ fs gs (qp P md ops Q (fun wS=>Mem W wS gs) ex (fuel+is.length) listed):=by
 cases hs:KZ P ops n is σ with
 |none=>rw [hs] at h;cases h
 |some s=>
  rw [hs] at h
  injection h with h
  injection h with h1 h2
  have hA:=VY is hs hk
  obtain ⟨full,hf⟩:=VD is hA
  exact fun a Z E HS=>Sq hQ is Z (fun _=>HS) hA fun a Z=>k a (Z.thin hf h1 h2) E HS
section
variable {i:Nat}
theorem VV.yl (h:iW ops σ n i=some (d,op)) (hk:Di md ops ex listed i=true) (hQ:∀c (a:Act) v w,Q (.panic c) (a.put (some d) v) w→Q (.panic c) a w) (hy:∀o:Oper,o.op=op→Yl P (fun wS=>Mem W wS gs) σ o v)
 (k:VV W w n D ((d,v)::σ) fs gs (qp P md ops Q (fun wS=>Mem W wS gs) ex fuel (listed.setIfInBounds i true))):VV W w n D σ fs gs (qp P md ops Q (fun wS=>Mem W wS gs) ex (fuel+1) listed):=by
 obtain ⟨o,ho,hw,hd,hdn,he⟩:=M0 h
 exact fun a Z E HS=>KT Z HS ho hw hd hdn hk (fun c a w=>by rw [hd];exact hQ c a v w) (hy o he) fun a Z=>k a Z E HS
theorem VV.pu (h:iW ops σ n i=some (d,op)) (hk:sK md ops ex listed i=true) (hQ:∀c (a:Act) v w,Q (.panic c) (a.put (some d) v) w→Q (.panic c) a w) (hy:∀o:Oper,o.op=op→∀S',Yl P S' σ o v)
 (k:VV W w n D ((d,v)::σ) fs gs (qp P md ops Q (fun wS=>Mem W wS gs) ex fuel (listed.setIfInBounds i true))):VV W w n D σ fs gs (qp P md ops Q (fun wS=>Mem W wS gs) ex (fuel+1) listed):=by
 obtain ⟨o,ho,hw,hd,hdn,he⟩:=M0 h
 exact fun a Z E HS=>yM Z (fun _=>HS) ho hw hd hdn hk (fun c a w=>by rw [hd];exact hQ c a v w) (hy o he) fun a Z=>k a Z E HS
theorem VV.xS (h:iW ops σ n i=some (d,op)) (hr:Region.ready md ops listed=[i]) (k:∀(o:Oper) a,o.op=op→o.dst=some d→d<n→Fr a n D σ→Mem W w fs→o.wp P a w (fun a' w'=>(dM ex (listed.setIfInBounds i true)=false→Mem W w' gs)∧qp P md ops Q (fun wS=>Mem W wS gs) ex fuel (listed.setIfInBounds i true) a' w') Q):VV W w n D σ fs gs (qp P md ops Q (fun wS=>Mem W wS gs) ex (fuel+1) listed):=by
 obtain ⟨o,ho,hw,hd,hdn,he⟩:=M0 h
 exact fun a Z E _=>zc [i] hr rfl (all_cons (qq Z ho hw (k o a he hd hdn Z E)) all_nil)
end
theorem Vf (i off:Nat) {s f g b:Nat} {x:Operand} (h:iW ops σ n i=some (d,.fieldAddr s x f):=by exact rfl) (hx:look σ x=some (.pointer (some ⟨g,b,none⟩)):=by exact rfl) (hf:(KP P s f==some off&&sK md ops ex listed i)=true:=by kernel_rfl) (hQ:∀c (a:Act) v w,Q (.panic c) (a.put (some d) v) w→Q (.panic c) a w:=by exact fun _ _ _ _ h=>h)
 (k:VV W w n D ((d,.pointer (some ⟨g,b+off,none⟩))::σ) fs gs (qp P md ops Q (fun wS=>Mem W wS gs) ex fuel (listed.setIfInBounds i true))):VV W w n D σ fs gs (qp P md ops Q (fun wS=>Mem W wS gs) ex (fuel+1) listed):=by
 rw [Bool.and_eq_true,beq_iff_eq] at hf
 exact VV.pu h hf.2 hQ (fun o ho _=>Yl.pure (by rw [ho];simp only [xM,hx,hf.1];rw [Addr.add_mid])) k
theorem Vc (i:Nat) {g off:Nat} {x:Operand} {t tb:TypeId} {cs:Array Value} (O:At gs (.blk g cs tb)) (h:iW ops σ n i=some (d,.load t x):=by exact rfl) (hx:look σ x=some (.pointer (some ⟨g,off,none⟩)):=by exact rfl) (hv:nth cs.toList off=some v:=by exact rfl) (ht:(jl P t&&Di md ops ex listed i)=true:=by kernel_rfl) (hQ:∀c (a:Act) v w,Q (.panic c) (a.put (some d) v) w→Q (.panic c) a w:=by exact fun _ _ _ _ h=>h)
 (k:VV W w n D ((d,v)::σ) fs gs (qp P md ops Q (fun wS=>Mem W wS gs) ex fuel (listed.setIfInBounds i true))):VV W w n D σ fs gs (qp P md ops Q (fun wS=>Mem W wS gs) ex (fuel+1) listed):=by
 rw [Bool.and_eq_true] at ht
 exact VV.yl h ht.2 hQ (fun o ho=>Yl.qj ho hx ht.1 fun _ h=>let ⟨_,hi⟩:=O.get;h.cell hi (SF hv)) k
theorem Vl (i:Nat) {x:Operand} {t:TypeId} {A:Option Addr} {m c:Nat} (h:iW ops σ n i=some (d,.call {callee:= .builtin .len,args:= #[x],argTypes:= #[t]}):=by exact rfl) (hx:look σ x=some (.slice A m c):=by exact rfl) (ht:(uU P t&&sK md ops ex listed i)=true:=by kernel_rfl) (hQ:∀c (a:Act) v w,Q (.panic c) (a.put (some d) v) w→Q (.panic c) a w:=by exact fun _ _ _ _ h=>h)
 (k:VV W w n D ((d,.int .i64 (m:Int))::σ) fs gs (qp P md ops Q (fun wS=>Mem W wS gs) ex fuel (listed.setIfInBounds i true))):VV W w n D σ fs gs (qp P md ops Q (fun wS=>Mem W wS gs) ex (fuel+1) listed):=by
 rw [Bool.and_eq_true] at ht
 exact VV.pu h ht.2 hQ (fun o ho _=>Yl.len ho hx ht.1) k
theorem Vn (i:Nat) {x:Operand} {p:Addr} (h:iW ops σ n i=some (d,.nilCheck x):=by exact rfl) (hx:look σ x=some (.pointer (some p)):=by exact rfl) (ht:sK md ops ex listed i=true:=by kernel_rfl) (hQ:∀c (a:Act) v w,Q (.panic c) (a.put (some d) v) w→Q (.panic c) a w:=by exact fun _ _ _ _ h=>h)
 (k:VV W w n D ((d,.pointer (some p))::σ) fs gs (qp P md ops Q (fun wS=>Mem W wS gs) ex fuel (listed.setIfInBounds i true))):VV W w n D σ fs gs (qp P md ops Q (fun wS=>Mem W wS gs) ex (fuel+1) listed):=
 VV.pu h ht hQ (fun o ho _=>Yl.nilCheck ho hx) k
theorem Vx (i:Nat) {x:Operand} {e:Nat} {vs:Array Value} (h:iW ops σ n i=some (d,.extract x e):=by exact rfl) (hx:look σ x=some (.tuple vs):=by exact rfl) (hv:nth vs.toList e=some v:=by exact rfl) (ht:sK md ops ex listed i=true:=by kernel_rfl) (hQ:∀c (a:Act) v w,Q (.panic c) (a.put (some d) v) w→Q (.panic c) a w:=by exact fun _ _ _ _ h=>h)
 (k:VV W w n D ((d,v)::σ) fs gs (qp P md ops Q (fun wS=>Mem W wS gs) ex fuel (listed.setIfInBounds i true))):VV W w n D σ fs gs (qp P md ops Q (fun wS=>Mem W wS gs) ex (fuel+1) listed):=
 VV.pu h ht hQ (fun o ho _=>Yl.pure (by rw [ho];simp only [xM,hx];exact SF hv)) k
theorem Vy (i:Nat) (ho:ops[i]?=some o:=by exact rfl) (hw:dL ops σ o=some true:=by exact rfl) (hd:o.dst=some d:=by exact rfl) (hdn:d<n:=by decide) (h:Yl P (fun wS=>Mem W wS gs) σ o v) (ht:Di md ops ex listed i=true:=by kernel_rfl) (hQ:∀c (a:Act) w,Q (.panic c) (a.put o.dst v) w→Q (.panic c) a w:=by exact fun _ _ _ h=>h)
 (k:VV W w n D ((d,v)::σ) fs gs (qp P md ops Q (fun wS=>Mem W wS gs) ex fuel (listed.setIfInBounds i true))):VV W w n D σ fs gs (qp P md ops Q (fun wS=>Mem W wS gs) ex (fuel+1) listed):=
 fun a Z E HS=>KT Z HS ho hw hd hdn ht hQ h fun a Z=>k a Z E HS
theorem Vu (i:Nat) (ho:ops[i]?=some o:=by exact rfl) (hw:dL ops σ o=some true:=by exact rfl) (hd:o.dst=some d:=by exact rfl) (hdn:d<n:=by decide) (h:∀S':World→Prop,Yl P S' σ o v) (ht:sK md ops ex listed i=true:=by kernel_rfl) (hQ:∀c (a:Act) w,Q (.panic c) (a.put o.dst v) w→Q (.panic c) a w:=by exact fun _ _ _ h=>h)
 (k:VV W w n D ((d,v)::σ) fs gs (qp P md ops Q (fun wS=>Mem W wS gs) ex fuel (listed.setIfInBounds i true))):VV W w n D σ fs gs (qp P md ops Q (fun wS=>Mem W wS gs) ex (fuel+1) listed):=
 fun a Z E HS=>yM Z (fun _=>HS) ho hw hd hdn ht hQ h fun a Z=>k a Z E HS
theorem Vo (u:Value) (h:v=u) (k:VV W w n D ((d,u)::σ) fs gs X):VV W w n D ((d,v)::σ) fs gs X:=by subst h;exact k
theorem VH {p:Prop} (h:p) (k:p→VV W w n D σ fs gs X):VV W w n D σ fs gs X:=k h
section
variable {x y:Operand} {t t2:TypeId} {k:Go.IntKind} {m p B:Nat}
theorem VV.bin (i:Nat) {bo:BinOp} {u:Value} {a1 a2:Value} (h:iW ops σ n i=some (d,.binOp bo t x y t2)) (hx:look σ x=some a1) (hy:look σ y=some a2) (ht:sK md ops ex listed i=true) (hQ:∀c (a:Act) v w,Q (.panic c) (a.put (some d) v) w→Q (.panic c) a w) (hn:ME a1=true) (hb:qed bo a1 a2=some v) (e:v=u)
 (K:VV W w n D ((d,u)::σ) fs gs (qp P md ops Q (fun wS=>Mem W wS gs) ex fuel (listed.setIfInBounds i true))):VV W w n D σ fs gs (qp P md ops Q (fun wS=>Mem W wS gs) ex (fuel+1) listed):=by
 subst e
 exact VV.pu h ht hQ (fun o ho _=>Yl.pure (by rw [ho];simp only [xM,hx,hy,hn,if_true];exact hb)) K
theorem Va (i:Nat) (h:iW ops σ n i=some (d,.binOp .add t x y t2):=by exact rfl) (hx:look σ x=some (.int k (m:Int)):=by exact rfl) (hy:look σ y=some (.int k (p:Int)):=by exact rfl) (hB:ko k=some B:=by exact rfl) (hb:m+p≤B:=by omega) (ht:sK md ops ex listed i=true:=by kernel_rfl) (hQ:∀c (a:Act) v w,Q (.panic c) (a.put (some d) v) w→Q (.panic c) a w:=by exact fun _ _ _ _ h=>h)
 (K:VV W w n D ((d,.int k ((m+p:Nat):Int))::σ) fs gs (qp P md ops Q (fun wS=>Mem W wS gs) ex fuel (listed.setIfInBounds i true))):VV W w n D σ fs gs (qp P md ops Q (fun wS=>Mem W wS gs) ex (fuel+1) listed):=
 VV.bin i h hx hy ht hQ rfl (qzb _ _ _) (by rw [show ((m:Int)+(p:Int))=((m+p:Nat):Int) from rfl,KX hB hb]) K
theorem K3 (i p:Nat) {z:Int} (h:iW ops σ n i=some (d,.binOp .add t x y t2):=by exact rfl) (hx:look σ x=some (.int k (m:Int)):=by exact rfl) (hy:look σ y=some (.int k z):=by exact rfl) (hz:z=(p:Int):=by exact rfl) (hB:ko k=some B:=by exact rfl) (hb:m+p≤B:=by omega) (ht:sK md ops ex listed i=true:=by kernel_rfl) (hQ:∀c (a:Act) v w,Q (.panic c) (a.put (some d) v) w→Q (.panic c) a w:=by exact fun _ _ _ _ h=>h)
 (K:VV W w n D ((d,.int k ((m+p:Nat):Int))::σ) fs gs (qp P md ops Q (fun wS=>Mem W wS gs) ex fuel (listed.setIfInBounds i true))):VV W w n D σ fs gs (qp P md ops Q (fun wS=>Mem W wS gs) ex (fuel+1) listed):=by
 subst hz;exact Va i h hx hy hB hb ht hQ K
theorem K4 (i p:Nat) {z:Int} (h:iW ops σ n i=some (d,.binOp .sub t x y t2):=by exact rfl) (hx:look σ x=some (.int k (m:Int)):=by exact rfl) (hy:look σ y=some (.int k z):=by exact rfl) (hz:z=(p:Int):=by exact rfl) (hB:ko k=some B:=by exact rfl) (hb:p≤m∧m-p≤B:=by omega) (ht:sK md ops ex listed i=true:=by kernel_rfl) (hQ:∀c (a:Act) v w,Q (.panic c) (a.put (some d) v) w→Q (.panic c) a w:=by exact fun _ _ _ _ h=>h)
 (K:VV W w n D ((d,.int k ((m-p:Nat):Int))::σ) fs gs (qp P md ops Q (fun wS=>Mem W wS gs) ex fuel (listed.setIfInBounds i true))):VV W w n D σ fs gs (qp P md ops Q (fun wS=>Mem W wS gs) ex (fuel+1) listed):=by
 subst hz
 exact VV.bin i h hx hy ht hQ rfl (qzc _ _ _) (by rw [show ((m:Int)- (p:Int))=((m-p:Nat):Int) by omega,KX hB hb.2]) K
theorem Vw (i:Nat) (k:Go.IntKind) {k0:Go.IntKind} (h:iW ops σ n i=some (d,.convert t t2 x):=by exact rfl) (hx:look σ x=some (.int k0 (m:Int)):=by exact rfl) (hk:(Dt P t t2==some k&&sK md ops ex listed i)=true:=by kernel_rfl) (hB:ko k=some B:=by exact rfl) (hb:m≤B:=by omega) (hQ:∀c (a:Act) v w,Q (.panic c) (a.put (some d) v) w→Q (.panic c) a w:=by exact fun _ _ _ _ h=>h)
 (K:VV W w n D ((d,.int k (m:Int))::σ) fs gs (qp P md ops Q (fun wS=>Mem W wS gs) ex fuel (listed.setIfInBounds i true))):VV W w n D σ fs gs (qp P md ops Q (fun wS=>Mem W wS gs) ex (fuel+1) listed):=by
 rw [Bool.and_eq_true,beq_iff_eq] at hk
 obtain ⟨hk,ht⟩:=hk
 refine VV.pu h ht hQ (fun o ho _=>Yl.pure (by
  rw [ho]
  unfold Dt at hk
  split at hk
  ·rename_i q1 q2 h1 h2
   injection hk with hk
   subst hk
   simp only [xM,h1,h2,hx,KX hB hb]
  ·cases hk)) K
end
theorem VA (i:Nat) (m:xQ fs gs) (cs:Array Value) {e:TypeId} (h:iW ops σ n i=some (d,.alloc e):=by exact rfl) (hz:CG P e=some cs:=by kernel_rfl) (hr:Region.ready md ops listed=[i]:=by kernel_rfl)
 (k:∀w' g,VV W w' n D ((d,.pointer (some ⟨g,0,none⟩))::σ) (.blk g cs e::fs) gs (qp P md ops Q (fun wS=>Mem W wS gs) ex fuel (listed.setIfInBounds i true))):VV W w n D σ fs gs (qp P md ops Q (fun wS=>Mem W wS gs) ex (fuel+1) listed):=
 VV.xS h hr fun _ _ he hd hdn Z E=>VE Z E he hz hd hdn fun a w' g Z E=>⟨fun _=>E.sel (.f m),k w' g a Z E (E.sel (.f m))⟩
theorem VI (i:Nat) (m:xQ fs gs) {f:FuncId} {xs:Array Operand} {ts:Array TypeId} {vs:List Value} (h0:iW ops σ n i=some (d,.call {callee:= .value (.func f),args:=xs,argTypes:=ts}):=by exact rfl) (hv:looks σ xs.toList=some vs:=by exact rfl) (h:Mem W w fs→Calls P f vs.toArray w (fun r w'=>r= .returned v∧Below w.heap.size w w')) (hf:callable P f=true:=by kernel_rfl) (hr:Region.ready md ops listed=[i]:=by kernel_rfl)
 (k:∀w',Below w.heap.size w w'→VV W w' n D ((d,v)::σ) fs gs (qp P md ops Q (fun wS=>Mem W wS gs) ex fuel (listed.setIfInBounds i true))):VV W w n D σ fs gs (qp P md ops Q (fun wS=>Mem W wS gs) ex (fuel+1) listed):=
 VV.xS h0 hr fun _ _ he hd hdn Z E=>EX Z he hv hf hd hdn (h E) fun _ w' ⟨h1,h2⟩=>⟨v,h1,fun a Z=>⟨fun _=>(E.call h2).sel m,k w' h2 a Z (E.call h2) ((E.call h2).sel m)⟩⟩
theorem VK (i:Nat) (m:xQ fs gs) {f:FuncId} {xs:Array Operand} {ts:Array TypeId} {vs:List Value} {V:Option Addr→Nat→Value} {l sz:Nat} {e:TypeId} {ys:List Value} (h0:iW ops σ n i=some (d,.call {callee:= .value (.func f),args:=xs,argTypes:=ts}):=by exact rfl) (hv:looks σ xs.toList=some vs:=by exact rfl) (h:Mem W w fs→Calls P f vs.toArray w (fun r w'=>(∃A c,r= .returned (V A c)∧w'.ownsRow w.heap.size e sz (.slice A l c) l ys∧l≤c)∧Below w.heap.size w w')) (hf:callable P f=true:=by kernel_rfl) (hr:Region.ready md ops listed=[i]:=by kernel_rfl)
 (k:∀A c w',l≤c→VV W w' n D ((d,V A c)::σ) (.row (.slice A l c) l ys e sz::fs) gs (qp P md ops Q (fun wS=>Mem W wS gs) ex fuel (listed.setIfInBounds i true))):VV W w n D σ fs gs (qp P md ops Q (fun wS=>Mem W wS gs) ex (fuel+1) listed):=
 VV.xS h0 hr fun _ _ he hd hdn Z E=>EX Z he hv hf hd hdn (h E) fun r w' ⟨⟨A,c,h1,h2,h3⟩,h4⟩=>⟨_,h1,fun a Z=>⟨fun _=>(E.bq h4 h2).sel (.f m),k A c w' h3 a Z (E.bq h4 h2) ((E.bq h4 h2).sel (.f m))⟩⟩
end
def gZ (x:Gr):List Value:=[.int .i64 x.parent,.int .i64 x.weight]
def lW (x:Tk):List Value:=[.int .i64 x.id,.int .i64 x.group,.int .i64 x.weight,.int .i64 x.cpu,.int .u64 (x.mask:Int),.bool x.ready,.int .u64 (x.v:Int),.int .u32 (x.r:Int)]
def jy (x:Sp):List Value:=[.int .u64 (x.v:Int),.int .u32 (x.r:Int),.int .u64 (x.floor:Int)]
def Gr.cells (x:Gr):Array Value:= #[.int .i64 x.parent,.int .i64 x.weight]
def Tk.cells (x:Tk):Array Value:= #[.int .i64 x.id,.int .i64 x.group,.int .i64 x.weight,.int .i64 x.cpu,.int .u64 (x.mask:Int),.bool x.ready,.int .u64 (x.v:Int),.int .u32 (x.r:Int)]
def Sp.cells (x:Sp):Array Value:= #[.int .u64 (x.v:Int),.int .u32 (x.r:Int),.int .u64 (x.floor:Int)]
theorem zx (x:Gr):(gZ x).length=2:=rfl
theorem sw (x:Tk):(lW x).length=8:=rfl
theorem vF (x:Sp):(jy x).length=3:=rfl
theorem zdo (x:Gr):∀v∈x.cells.toList,v.oneCell'=true:=by simp [Gr.cells,Value.oneCell']
theorem Lm (x:Tk):∀v∈x.cells.toList,v.oneCell'=true:=by simp [Tk.cells,Value.oneCell']
theorem Xe (x:Sp):∀v∈x.cells.toList,v.oneCell'=true:=by simp [Sp.cells,Value.oneCell']
structure Rw where
 A:Option Addr
 c:Nat
 l:List Sp
def Rw.zero:Rw:=⟨none,0,[]⟩
def Rw.val (x:Rw):Value:= .slice x.A x.l.length x.c
def Rw.own (x:Rw):Own:=⟨x.A,x.l.length,x.c,x.l.flatMap jy⟩
structure dK where
 aB:Int
 ak:Nat
 gA:Option Addr
 gc:Nat
 gs:List Gr
 lA:Option Addr
 lc:Nat
 cl:List Int
 uA:Option Addr
 uc:Nat
 cu:List Int
 tA:Option Addr
 tc:Nat
 ts:List Tk
 sA:Option Addr
 sc:Nat
 rs:List Rw
def dK.aD (x:dK):mV:=⟨x.aB,x.ak,x.gs,x.cl,x.cu,x.ts,x.rs.map Rw.l⟩
def dK.cells (x:dK):Array Value:= #[.int .i64 x.aB,.int .u64 (x.ak:Int),.slice x.gA x.gs.length x.gc,.slice x.lA x.cl.length x.lc,.slice x.uA x.cu.length x.uc,.slice x.tA x.ts.length x.tc,.slice x.sA x.rs.length x.sc]
theorem NM (x:dK):∀v∈x.cells.toList,v.oneCell'=true:=by simp [dK.cells,Value.oneCell']
structure cB (w:World) (x:dK):Prop where
 g:Rd w w.heap.size 2 x.gA x.gs.length (x.gs.flatMap gZ)
 l:Rd w w.heap.size 1 x.lA x.cl.length (x.cl.map bC)
 u:Rd w w.heap.size 1 x.uA x.cu.length (x.cu.map bC)
 t:Rd w w.heap.size 8 x.tA x.ts.length (x.ts.flatMap lW)
 s:Rd w w.heap.size 1 x.sA x.rs.length (x.rs.map Rw.val)
 r:∀y∈x.rs,Rd w w.heap.size 3 y.A y.l.length (y.l.flatMap jy)
structure fK (x:dK):Prop where
 g:x.gs.length≤x.gc
 l:x.cl.length≤x.lc
 u:x.cu.length≤x.uc
 t:x.ts.length≤x.tc
 s:x.rs.length≤x.sc
 r:∀y∈x.rs,y.l.length≤y.c
structure aX (x:dK):Prop where
 g:x.gs.length≤1000000
 l:x.cl.length≤1000000
 u:x.cu.length≤1000000
 t:x.ts.length≤1000000
 s:x.rs.length≤1000000
 r:∀y∈x.rs,y.l.length≤1000000
theorem cB.old {W w:World} {fs:List Fact} {x:dK} (h:cB W x) (E:Mem W w fs):cB w x:=⟨E.old h.g,E.old h.l,E.old h.u,E.old h.t,E.old h.s,fun y hy=>E.old (h.r y hy)⟩
theorem kC {x:dK} {g:Nat} (h:g<x.rs.length):x.aD.sp.getD g []=(x.rs.getD g Rw.zero).l:=by
 show (x.rs.map Rw.l).getD g []=_
 rw [List.getD_eq_getElem?_getD,List.getD_eq_getElem?_getD,List.getElem?_map,List.getElem?_eq_getElem h]
 rfl
theorem cB.row {w:World} {x:dK} (h:cB w x) {g:Nat} (hg:g<x.rs.length):Rd w w.heap.size 3 (x.rs.getD g Rw.zero).A (x.rs.getD g Rw.zero).l.length ((x.rs.getD g Rw.zero).l.flatMap jy):=h.r _ (qi Rw.zero hg)
theorem nC:SI Tryz.prog 198 2:=⟨by kernel_rfl,by kernel_rfl⟩
theorem eU:SI Tryz.prog 232 8:=⟨by kernel_rfl,by kernel_rfl⟩
theorem kD:SI Tryz.prog 200 3:=⟨by kernel_rfl,by kernel_rfl⟩
theorem uL:SI Tryz.prog 44 3:=⟨by kernel_rfl,by kernel_rfl⟩
theorem dD:SI Tryz.prog 48 7:=⟨by kernel_rfl,by kernel_rfl⟩
theorem q8s:SI Tryz.prog 333 3:=⟨by kernel_rfl,by kernel_rfl⟩
theorem q0q:SI Tryz.prog 426 3:=⟨by kernel_rfl,by kernel_rfl⟩
theorem zr:SI Tryz.prog 50 8:=⟨by kernel_rfl,by kernel_rfl⟩
theorem FC:SI Tryz.prog 180 8:=⟨by kernel_rfl,by kernel_rfl⟩
theorem oz:EI Tryz.prog 42 198 (.agg Gr.zero.cells) 2 16:=⟨by kernel_rfl,by kernel_rfl,rfl,by omega⟩
theorem qC:EI Tryz.prog 45 232 (.agg Tk.zero.cells) 8 64:=⟨by kernel_rfl,by kernel_rfl,rfl,by omega⟩
theorem qD:EI Tryz.prog 176 200 (.agg Sp.zero.cells) 3 24:=⟨by kernel_rfl,by kernel_rfl,rfl,by omega⟩
theorem sW:EI Tryz.prog 46 176 (.slice none 0 0) 1 24:=⟨by kernel_rfl,by kernel_rfl,rfl,by omega⟩
section
variable {w w':World} {p q:Prop} [Decidable p] [Decidable q]
theorem Lp (h:q↔p) (hb:Below w.heap.size w w'):Is w (.bool (decide p)) (.returned (.bool (decide q))) w':=⟨by rw [decide_eq_decide.2 h],hb⟩
theorem Lr (h:p) (hb:Below w.heap.size w w'):Is w (.bool (decide p)) (.returned (.bool true)) w':=⟨by rw [decide_eq_true h],hb⟩
theorem bX (h:¬p) (hb:Below w.heap.size w w'):Is w (.bool (decide p)) (.returned (.bool false)) w':=⟨by rw [decide_eq_false h],hb⟩
theorem aM {a b:Bool} (h:a=b) (hb:Below w.heap.size w w'):Is w (.bool b) (.returned (.bool a)) w':=h▸ ⟨rfl,hb⟩
end
theorem Ij {l:List Gr} (h:¬(1≤l.length∧l.length≤256∧l.getD 0 Gr.zero=⟨0,1⟩)):jv l=false:=by unfold jv;rw [decide_eq_false h,Bool.false_and]
theorem Ls {l:List Gr} {g:Nat} (hg:g<l.length) (h:sj l g=false):jv l=false:=by unfold jv;rw [zj hg h,Bool.and_false]
theorem que {l:List Gr} (h:1≤l.length∧l.length≤256∧l.getD 0 Gr.zero=⟨0,1⟩) (hu:bL l.length (sj l)):jv l=true:=by unfold jv;rw [decide_eq_true h,hu.all];rfl
theorem quf (l:List Gr):sj l 0=true:=rfl
theorem Lu {l:List Gr} {g:Nat} (h0:0<g) (h:¬(0≤(l.getD g Gr.zero).parent∧(l.getD g Gr.zero).parent<g∧(1≤(l.getD g Gr.zero).weight∧(l.getD g Gr.zero).weight≤65536)∧gY l g≤4)):sj l g=false:=by grind [sj,FB]
theorem q0t {l:List Gr} {g:Nat} (h:0≤(l.getD g Gr.zero).parent∧(l.getD g Gr.zero).parent<g∧(1≤(l.getD g Gr.zero).weight∧(l.getD g Gr.zero).weight≤65536)∧gY l g≤4):sj l g=true:=by grind [sj,FB]
theorem q0u {l:List Gr} {g:Nat} (hu:bL g (sj l)) (h:0≤(l.getD g Gr.zero).parent∧(l.getD g Gr.zero).parent<g):∀i,0<i→i≤g→gK l i:=fun i h0 hi=>by
 rcases Nat.lt_or_ge i g with h1|h1
 ·exact Tj (hu i h1) h0
 ·obtain rfl:i=g:=by omega
  exact h
theorem qug (x y:Gr):pK Tryz.prog 4 198 (.agg x.cells) (.agg y.cells)=some (decide (x=y)):=by
 have h:pK Tryz.prog 4 198 (.agg x.cells) (.agg y.cells)=some ((x.parent==y.parent)&& ((x.weight==y.weight)&&true)):=by kernel_rfl
 refine h.trans (congrArg some ?_)
 obtain ⟨a,b⟩:=x
 obtain ⟨c,d⟩:=y
 rw [Bool.eq_iff_iff]
 simp only [Bool.and_eq_true,beq_iff_eq,decide_eq_true_eq,Gr.mk.injEq,and_true]
theorem zal {m n:Nat} (h:1≤n):(((m/2^ (n-1)/2:Nat):Int) !=(0:Int))=decide (2^n≤m):=by
 have e:m/2^ (n-1)/2=m/2^n:=by rw [Nat.div_div_eq_div_mul,←Nat.pow_succ,show (n-1).succ=n by omega]
 rw [e,Bool.eq_iff_iff,bne_iff_ne,decide_eq_true_eq]
 have h1:= @Nat.div_pos_iff m (2^n)
 have h2:0<2^n:=Nat.two_pow_pos n
 generalize m/2^n=q at*
 constructor
 ·intro h3
  exact (h1.1 om).2
 ·intro h3
  have:=h1.2 ⟨h2,h3⟩
  omega
section
variable {x:dK} {t:Tk}
theorem yR (h:¬(1≤t.id∧t.id≤65535∧0≤t.group∧t.group<x.rs.length∧0≤t.cpu∧t.cpu<x.aB)):dF x.aD t=false:=by
 unfold dF
 rw [decide_eq_false (by rwa [show x.aD.sp.length=x.rs.length from List.length_map ..]),Bool.false_and]
theorem Xh (h:¬(1≤t.weight∧t.weight≤65536)):dF x.aD t=false:=by grind [dF,FB]
theorem q8t (h:2^x.aB.toNat≤t.mask):dF x.aD t=false:=by
 unfold dF Xd
 rw [show decide (2^x.aD.aB.toNat≤t.mask)=true from decide_eq_true h]
 simp
theorem q8u (h:¬t.mask/2^t.cpu.toNat%2=1):dF x.aD t=false:=by unfold dF;rw [decide_eq_false h];simp
theorem Xi (h:1≤t.id∧t.id≤65535∧0≤t.group∧t.group<x.rs.length∧0≤t.cpu∧t.cpu<x.aB) (h2:1≤t.weight∧t.weight≤65536) (h3:¬2^x.aB.toNat≤t.mask) (h4:t.mask/2^t.cpu.toNat%2=1):dF x.aD t=iC t.v t.r t.weight:=by
 unfold dF FB Xd
 rw [decide_eq_true (by rwa [show x.aD.sp.length=x.rs.length from List.length_map ..]),decide_eq_true h2,show decide (2^x.aD.aB.toNat≤t.mask)=false from decide_eq_false h3,decide_eq_true h4]
 simp
theorem Lv (h:¬(1≤x.aB∧x.aB≤64∧x.ak≤1099511627776)):eO x.aD=false:=by unfold eO;rw [show decide (1≤x.aD.aB∧x.aD.aB≤64∧x.aD.ak≤1099511627776)=false from decide_eq_false h];rfl
theorem q0x (h:1≤x.aB∧x.aB≤64∧x.ak≤1099511627776):eO x.aD=jv x.gs:=by unfold eO;rw [show decide (1≤x.aD.aB∧x.aD.aB≤64∧x.aD.ak≤1099511627776)=true from decide_eq_true h];rfl
theorem yS (h:eO x.aD=true):1≤x.aB∧x.aB≤64∧x.ak≤1099511627776∧jv x.gs=true:=by
 unfold eO at h
 rw [Bool.and_eq_true,decide_eq_true_eq] at h
 exact ⟨h.1.1,h.1.2.1,h.1.2.2,h.2⟩
end
def zP (w:World) (n:Nat) (p:Nat→Bool) (r:Ending) (w':World):Prop:=(∃i:Int,r= .returned (.int .i64 i)∧decide (i≥0)= !eB n p)∧Below w.heap.size w w'
theorem qw2 {w w':World} {n k:Nat} {p:Nat→Bool} (hk:k<n) (h:p k=false) (hb:Below w.heap.size w w'):zP w n p (.returned (.int .i64 (k:Int))) w':=⟨⟨k,rfl,by rw [zj hk h,decide_eq_true om];rfl⟩,hb⟩
theorem qw3 {w w':World} {n:Nat} {p:Nat→Bool} (hu:bL n p) (hb:Below w.heap.size w w'):zP w n p (.returned (.int .i64 (-1))) w':=⟨⟨-1,rfl,by rw [hu.all];rfl⟩,hb⟩
def Xj (w:World) (l:List Gr) (r:Ending) (w':World):Prop:=(∃i e:Int,r= .returned (.tuple #[.int .i64 i,.int .i64 e])∧((e==0)=jv l))∧Below w.heap.size w w'
theorem Ik {w w':World} {l:List Gr} {i e:Int} (h:jv l=false) (he:e≠0) (hb:Below w.heap.size w w'):Xj w l (.returned (.tuple #[.int .i64 i,.int .i64 e])) w':=⟨⟨i,e,rfl,by rw [h];exact beq_false_of_ne he⟩,hb⟩
theorem qr4 {w w':World} {l:List Gr} {i:Int} (h:jv l=true) (hb:Below w.heap.size w w'):Xj w l (.returned (.tuple #[.int .i64 i,.int .i64 0])) w':=⟨⟨i,0,rfl,by rw [h];rfl⟩,hb⟩
section
variable {x:dK} {g c i:Nat}
theorem rO:x.aD.sp.length=x.rs.length:=List.length_map ..
theorem Lx:Tn x.aD=decide ((x.cl.length:Int)=x.aB∧(x.cu.length:Int)=x.aB∧x.rs.length=x.gs.length):=by unfold Tn;rw [rO];rfl
theorem zdp (h:eO x.aD=false):zw x.aD=false:=by unfold zw;rw [h];rfl
theorem Xk (h:¬((x.cl.length:Int)=x.aB∧(x.cu.length:Int)=x.aB∧x.rs.length=x.gs.length)):zw x.aD=false:=by grind [Lx,zw]
theorem NP (h:eB x.cl.length (fun c=>gL (x.cl.getD c 0))=false):zw x.aD=false:=by unfold zw;rw [show eB x.aD.cl.length (fun c=>gL (x.aD.cl.getD c 0))=false from h];simp
theorem q8v (hg:g<x.rs.length) (h:rowOk x.aD g=false):zw x.aD=false:=by grind [zj,zw,rO]
theorem NQ (hi:i<x.ts.length) (h:fC x.aD i=false):zw x.aD=false:=by unfold zw;rw [zj (n:=x.aD.ts.length) hi h];simp
theorem zdq (h1:eO x.aD=true) (h2:(x.cl.length:Int)=x.aB∧(x.cu.length:Int)=x.aB∧x.rs.length=x.gs.length) (h3:eB x.cl.length (fun c=>gL (x.cl.getD c 0))=true) (h4:bL x.rs.length (rowOk x.aD)) (h5:bL x.ts.length (fC x.aD)):zw x.aD=true:=by
 unfold zw
 rw [h1,Lx,decide_eq_true h2,show eB x.aD.cl.length (fun c=>gL (x.aD.cl.getD c 0))=true from h3,rO,h4.all,show eB x.aD.ts.length (fC x.aD)=true from h5.all]
 rfl
structure ShAt (x:dK):Prop where
 cfg:eO x.aD=true
 cl:(x.cl.length:Int)=x.aB
 cu:(x.cu.length:Int)=x.aB
 rs:x.rs.length=x.gs.length
 cls:∀c,c<x.cl.length→gL (x.cl.getD c 0)=true
 row:∀g,g<x.rs.length→rowOk x.aD g=true
 tk:∀i,i<x.ts.length→fC x.aD i=true
theorem zQ (h:zw x.aD=true):ShAt x:=by
 unfold zw at h
 simp only [Bool.and_eq_true] at h
 obtain ⟨⟨h1,h2⟩,h3,h4,h5⟩:=h
 rw [Lx,decide_eq_true_eq] at h2
 rw [rO] at h4
 exact ⟨h1,h2.1,h2.2.1,h2.2.2,fun c hc=>DR h3 hc,fun g hg=>DR h4 hg,fun i hi=>DR h5 hi⟩
theorem Tq (hg:g<x.rs.length):rowOk x.aD g=(decide (((x.rs.getD g Rw.zero).l.length:Int)=x.aB)&&eB (x.rs.getD g Rw.zero).l.length fun c=>gu x.aD g ((x.rs.getD g Rw.zero).l.getD c Sp.zero)):=by
 unfold rowOk mV.spot
 rw [kC hg]
 rfl
theorem q0z (hg:g<x.rs.length) (h:((x.rs.getD g Rw.zero).l.length:Int)≠x.aB):rowOk x.aD g=false:=by rw [Tq hg,decide_eq_false h];rfl
theorem q00 (hg:g<x.rs.length) (hc:c<(x.rs.getD g Rw.zero).l.length) (h:gu x.aD g ((x.rs.getD g Rw.zero).l.getD c Sp.zero)=false):rowOk x.aD g=false:=by rw [Tq hg,zj hc h,Bool.and_false]
theorem q01 (hg:g<x.rs.length) (h:((x.rs.getD g Rw.zero).l.length:Int)=x.aB) (hu:bL (x.rs.getD g Rw.zero).l.length (fun c=>gu x.aD g ((x.rs.getD g Rw.zero).l.getD c Sp.zero))):rowOk x.aD g=true:=by rw [Tq hg,decide_eq_true h,hu.all];rfl
theorem FD (hg:g<x.rs.length) (h:rowOk x.aD g=true):((x.rs.getD g Rw.zero).l.length:Int)=x.aB∧∀c,c<(x.rs.getD g Rw.zero).l.length→gu x.aD g ((x.rs.getD g Rw.zero).l.getD c Sp.zero)=true:=by grind [DR,Tq]
variable {z:Sp}
theorem q8w (h:iC z.v z.r (x.gs.getD g Gr.zero).weight=false):gu x.aD g z=false:=by unfold gu;rw [show iC z.v z.r (x.aD.gs.getD g Gr.zero).weight=false from h];rfl
theorem q8x (h0:g=0) (h:¬(z.v=0∧z.r=0)):gu x.aD g z=false:=by unfold gu;rw [decide_eq_false h,h0];simp
theorem q02 (h:iC z.v z.r (x.gs.getD g Gr.zero).weight=true) (h0:g≠0):gu x.aD g z=true:=by unfold gu;rw [show iC z.v z.r (x.aD.gs.getD g Gr.zero).weight=true from h];simp [h0]
theorem q03 (h:iC z.v z.r (x.gs.getD g Gr.zero).weight=true) (h0:g=0) (hv:z.v=0):((z.r:Int) !=(0:Int))= !gu x.aD g z:=by
 unfold gu
 rw [show iC z.v z.r (x.aD.gs.getD g Gr.zero).weight=true from h,h0,hv]
 rw [Bool.eq_iff_iff,bne_iff_ne]
 simp
theorem q04 (h0:i=0∨(x.ts.getD (i-1) Tk.zero).id<(x.ts.getD i Tk.zero).id):fC x.aD i=dF x.aD (x.ts.getD i Tk.zero):=by
 unfold fC
 rw [show (i==0||decide ((x.aD.ts.getD (i-1) Tk.zero).id<(x.aD.ts.getD i Tk.zero).id))=true from by rw [Bool.or_eq_true,beq_iff_eq,decide_eq_true_eq];exact h0]
 rfl
theorem qui (h0:0<i) (h:¬(x.ts.getD (i-1) Tk.zero).id<(x.ts.getD i Tk.zero).id):fC x.aD i=false:=by
 unfold fC
 rw [show decide ((x.aD.ts.getD (i-1) Tk.zero).id<(x.aD.ts.getD i Tk.zero).id)=false from decide_eq_false h,show (i==0)=false from by rw [beq_eq_false_iff_ne];omega]
 rfl
theorem quj (h:dF x.aD (x.ts.getD i Tk.zero)=false):fC x.aD i=false:=by unfold fC;rw [show dF x.aD (x.aD.ts.getD i Tk.zero)=false from h,Bool.and_false]
theorem q6a (h0:i=0∨(x.ts.getD (i-1) Tk.zero).id<(x.ts.getD i Tk.zero).id) (h:dF x.aD (x.ts.getD i Tk.zero)=true):fC x.aD i=true:=by
 unfold fC
 rw [show dF x.aD (x.aD.ts.getD i Tk.zero)=true from h,Bool.and_true,Bool.or_eq_true,beq_iff_eq,decide_eq_true_eq]
 exact h0
theorem Tt (h:fC x.aD i=true):(i=0∨(x.ts.getD (i-1) Tk.zero).id<(x.ts.getD i Tk.zero).id)∧dF x.aD (x.ts.getD i Tk.zero)=true:=by
 unfold fC at h
 rw [Bool.and_eq_true,Bool.or_eq_true,beq_iff_eq,decide_eq_true_eq] at h
 exact h
end
theorem zR {l:List Gr} (h:jv l=true) {g:Nat} (hg:g<l.length):1≤(l.getD g Gr.zero).weight∧(l.getD g Gr.zero).weight≤65536:=by grind [sj,Ll,FB]
def jY (a b:Int):Int:=if a<b then -1 else if b<a then 1 else 0
theorem q05 {a b:Int}:decide (jY a b<0)=decide (a<b):=by grind [jY]
theorem q06 {a b:Int}:(jY a b==0)=decide (a=b):=by grind [jY]
theorem zam {a b:Int}:(jY a b !=0)=decide (a≠b):=by
 rw [bne,q06,decide_not]
def qE (l:List Tk):Prop:=∀i j,i<j→j<l.length→(l.getD i Tk.zero).id<(l.getD j Tk.zero).id
theorem zan {x:dK} (h:ShAt x):qE x.ts:=by
 have step:∀i,i+1<x.ts.length→(x.ts.getD i Tk.zero).id<(x.ts.getD (i+1) Tk.zero).id:=fun i hi=>by
  have:=(Tt (h.tk (i+1) hi)).1
  grind
 intro i j hij
 induction j with
 |zero=>omega
 |succ j ih=>
  grind
theorem qpl {l:List Tk} {id:Int} {i:Nat} (hi:i<l.length) (h:(l.getD i Tk.zero).id=id) (hn:∀k,k<i→(l.getD k Tk.zero).id≠id):gy l id=some i:=by
 unfold gy
 rw [List.findIdx?_eq_some_iff_getElem]
 have e:∀k (hk:k<l.length),l.getD k Tk.zero=l[k]:=fun k hk=>by rw [List.getD_eq_getElem?_getD,List.getElem?_eq_getElem hk];rfl
 grind
theorem Xm {l:List Tk} {id:Int} (hn:∀k,k<l.length→(l.getD k Tk.zero).id≠id):gy l id=none:=by grind [gy,List.findIdx?_eq_none_iff,List.getElem?_eq_getElem,List.getElem_of_mem]
theorem q07 {l:List Tk} {id:Int} {i:Nat} (h:gy l id=some i):i<l.length∧(l.getD i Tk.zero).id=id:=by grind [gy,List.findIdx?_eq_some_iff_getElem,List.getElem?_eq_getElem]
def fidx (l:List Tk) (id:Int):Int:=match gy l id with
 |some i=>(i:Int)
 |none=> -1
def Tw (w:World) (l:List Tk) (id:Int) (r:Ending) (w':World):Prop:=(∃(i:Nat) (b:Bool),r= .returned (.tuple #[.int .i64 (i:Int),.bool b])∧i≤l.length∧(if b=true then (i:Int) else -1)=fidx l id)∧Below w.heap.size w w'
theorem q08 {w w':World} {l:List Tk} {id:Int} {i:Nat} (hs:qE l) (hi:i<l.length) (h1:∀k,k<i→(l.getD k Tk.zero).id<id) (h2:∀k,i≤k→k<l.length→id≤(l.getD k Tk.zero).id) (hb:Below w.heap.size w w'):Tw w l id (.returned (.tuple #[.int .i64 (i:Int),.bool (decide ((l.getD i Tk.zero).id=id))])) w':=by
 refine ⟨⟨i,_,rfl,by omega,?_⟩,hb⟩
 unfold fidx
 by_cases h:(l.getD i Tk.zero).id=id
 ·rw [decide_eq_true h,if_pos rfl,qpl hi h (fun k hk=>by have:=h1 k hk;omega)]
 ·rw [decide_eq_false h,if_neg de,Xm (fun k hk=>?_)]
  rcases Nat.lt_or_ge k i with h3|h3
  ·have:=h1 k h3;omega
  ·have h4:=h2 i (Nat.le_refl _) hi
   rcases Nat.lt_or_ge i k with h5|h5
   ·have:=hs i k h5 hk;omega
   ·obtain rfl:k=i:=by omega
    exact h
theorem search_end {w w':World} {l:List Tk} {id:Int} (h1:∀k,k<l.length→(l.getD k Tk.zero).id<id) (hb:Below w.heap.size w w'):Tw w l id (.returned (.tuple #[.int .i64 (l.length:Int),.bool false])) w':=by
 refine ⟨⟨_,_,rfl,Nat.le_refl _,?_⟩,hb⟩
 grind [fidx,Xm]
theorem NR {x:dK} {c:Nat} (h0:x.cu.getD c 0≠0) {i:Nat} (hi:gy x.ts (x.cu.getD c 0)=some i):eP x.aD c=((x.ts.getD i Tk.zero).ready&&decide ((x.ts.getD i Tk.zero).cpu=c)):=by
 unfold eP
 rw [show gy x.aD.ts (x.aD.cu.getD c 0)=some i from hi,show decide (x.aD.cu.getD c 0=0)=false from decide_eq_false h0]
 rfl
theorem qln {x:dK} {c:Nat} (h0:x.cu.getD c 0≠0) (hi:gy x.ts (x.cu.getD c 0)=none):eP x.aD c=false:=by
 unfold eP
 rw [show gy x.aD.ts (x.aD.cu.getD c 0)=none from hi,show decide (x.aD.cu.getD c 0=0)=false from decide_eq_false h0]
 rfl
theorem qlo {x:dK} {c:Nat} (h0:x.cu.getD c 0=0):eP x.aD c=true:=by
 unfold eP
 rw [show decide (x.aD.cu.getD c 0=0)=true from decide_eq_true h0]
 rfl
theorem qlp (l:List Tk) (id:Int):(fidx l id= -1∧gy l id=none)∨∃i:Nat,fidx l id=i∧gy l id=some i∧i<l.length∧(l.getD i Tk.zero).id=id:=by grind [fidx,gy,q07]
def Mb.nums (m:Mb):List Nat:=[m.v,m.k,m.id]
def Mb.cells (m:Mb):Array Value:= #[.int .u64 (m.v:Int),.int .u64 (m.k:Int),.int .u64 (m.id:Int)]
def Mb.Ok (m:Mb):Prop:=m.v<18446744073709551616∧m.k<18446744073709551616∧m.id<18446744073709551616
theorem Tx (x:Mb):∀v∈x.cells.toList,v.oneCell'=true:=by simp [Mb.cells,Value.oneCell']
theorem q6b {a b:Mb} {k:Nat} (hk:k<3) (he:∀i,i<k→a.nums.getD i 0=b.nums.getD i 0) (hn:a.nums.getD k 0≠b.nums.getD k 0):decide (jY (a.nums.getD k 0:Int) (b.nums.getD k 0:Int)<0)=a.lt b:=by
 rw [q05]
 obtain ⟨a0,a1,a2⟩:=a
 obtain ⟨b0,b1,b2⟩:=b
 unfold Mb.lt
 rw [decide_eq_decide]
 dsimp only
 rcases k with _|_|_|k
 ·simp [Mb.nums] at hn⊢;omega
 ·grind [Mb.nums]
 ·have h0:=he 0 om
  grind [Mb.nums]
 ·omega
theorem q6c {a b:Mb} (he:∀i,i<3→a.nums.getD i 0=b.nums.getD i 0):a.lt b=false:=by
 obtain ⟨a0,a1,a2⟩:=a
 obtain ⟨b0,b1,b2⟩:=b
 have h0:=he 0 om
 have h1:=he 1 om
 have h2:=he 2 om
 grind [Mb.lt,Mb.nums]
def zS (w:World) (a b:Mb) (r:Ending) (w':World):Prop:=(∃c:Int,r= .returned (.int .i64 c)∧decide (c<0)=a.lt b)∧Below w.heap.size w w'
theorem qlq (b:Mb) (l:List Mb) (m:Mb):dx b (l++[m])=if m.lt (dx b l) then m else dx b l:=by unfold dx;rw [List.foldl_append];rfl
theorem NS {α β:Type} {f:α→Option β} {l:List α} {k:Nat} (d:α) (hk:k<l.length):(l.take (k+1)).filterMap f=(l.take k).filterMap f++(f (l.getD k d)).toList:=by
 rw [takeSnoc' d hk,List.filterMap_append]
 congr 1
where
 takeSnoc' {α:Type} {l:List α} {k:Nat} (d:α) (hk:k<l.length):l.take (k+1)=l.take k++[l.getD k d]:=by
  rw [List.take_add_one,List.getElem?_eq_getElem hk,List.getD_eq_getElem?_getD,List.getElem?_eq_getElem hk]
  rfl
theorem q6d {w w':World} {a b:Mb} {k:Nat} (hk:k<3) (he:∀i,i<k→a.nums.getD i 0=b.nums.getD i 0) (hn:a.nums.getD k 0≠b.nums.getD k 0) (hb:Below w.heap.size w w'):zS w a b (.returned (.int .i64 (jY (a.nums.getD k 0:Int) (b.nums.getD k 0:Int)))) w':=⟨⟨_,rfl,q6b hk he hn⟩,hb⟩
theorem q6e {w w':World} {a b:Mb} (he:∀i,i<3→a.nums.getD i 0=b.nums.getD i 0) (hb:Below w.heap.size w w'):zS w a b (.returned (.int .i64 0)) w':=⟨⟨_,rfl,by rw [q6c he];rfl⟩,hb⟩
theorem qr5 {n g h:Nat} (h1:g+1≤h) (h2:h<n):((List.range n).drop (g+1)).getD (h- (g+1)) 0=h∧h- (g+1)<((List.range n).drop (g+1)).length:=by grind
theorem Xn {β:Type} {f:Nat→Option β} {n g h:Nat} (h1:g+1≤h) (h2:h<n):(((List.range n).drop (g+1)).take (h+1- (g+1))).filterMap f=(((List.range n).drop (g+1)).take (h- (g+1))).filterMap f++(f h).toList:=by
 obtain ⟨e,hl⟩:=qr5 h1 h2
 have:=NS (f:=f) 0 hl
 grind
theorem q09 {β:Type} {f:Nat→Option β} {n g:Nat}:(((List.range n).drop (g+1)).take (n- (g+1))).filterMap f=((List.range n).drop (g+1)).filterMap f:=by rw [List.take_of_length_le (by simp)]
section
variable {x:dK} {g c h:Nat} {m:Nat→List Mb}
theorem qpm (hp:(x.gs.getD h Gr.zero).parent≠g):kT x.aD c m g h=none:=if_neg (fun hh=>hp hh.1)
theorem qpn (hm:m h=[]):kT x.aD c m g h=none:=if_neg (fun hh=>hh.2 hm)
theorem qun (hr:h<x.rs.length) (hp:(x.gs.getD h Gr.zero).parent=g) (hm:m h≠[]):kT x.aD c m g h=some ⟨((x.rs.getD h Rw.zero).l.getD c Sp.zero).v,1,h⟩:=by
 unfold kT
 rw [if_pos ⟨hp,hm⟩]
 unfold mV.spot
 rw [kC hr]
theorem zT (h0:zw x.aD=false):sV x.aD=false:=by unfold sV;rw [h0];rfl
theorem wU (hc:c<x.cu.length) (h:eP x.aD c=false):sV x.aD=false:=by unfold sV;rw [zj (n:=x.aD.cu.length) hc (by rw [h];rfl),Bool.and_false]
theorem zU (hc:c<x.cu.length) (hg:g<x.rs.length) (h:iV x.aD g c=false):sV x.aD=false:=by
 unfold sV
 rw [zj (n:=x.aD.cu.length) hc (by rw [zj (n:=x.aD.sp.length) (p:=fun g=>iV x.aD g c) (i:=g) (by rwa [rO]) h,Bool.and_false]),Bool.and_false]
theorem FE (h0:zw x.aD=true) (hu:bL x.cu.length fun c=>eP x.aD c&&eB x.rs.length fun g=>iV x.aD g c):sV x.aD=true:=by
 unfold sV
 rw [h0,rO,show eB x.aD.cu.length _=true from hu.all]
 rfl
theorem Xo (h:dB x.aD g c=[]):iV x.aD g c=true:=decide_eq_true (.inl h)
theorem Xp (h:dB x.aD g c≠[]):iV x.aD g c=decide ((dx iU (dB x.aD g c)).v≤(x.aD.spot g c).floor):=by grind [iV]
theorem Xq (hr:g<x.rs.length):x.aD.spot g c=(x.rs.getD g Rw.zero).l.getD c Sp.zero:=by unfold mV.spot;rw [kC hr]
end
section
variable {P:Program} {S:World→Prop} {σ:List (Nat×Value)} {o:Oper}
end
section
variable {P:Program} {Q:Exit→Act→World→Prop} {W:World} {a:Act} {w:World} {n d:Nat} {D:List Deferred} {σ:List (Nat×Value)} {fs:List Fact} {o:Oper} {K:Act→World→Prop}
end
theorem zap {l:List Gr} {g:Nat} (h:∀i,0<i→i≤g→gK l i):gY l g≤g:=by
 induction g using Nat.strongRecOn with
 | _ g ih =>
  rcases Nat.eq_zero_or_pos g with h0|h0
  ·subst h0;exact Nat.le_refl _
  ·have hg:=h g h0 (Nat.le_refl _)
   unfold gK at hg
   have:=ih (l.getD g Gr.zero).parent.toNat om (fun i h1 h2=>h i h1 om)
   rw [Xc h h0]
   omega
theorem qpo (x:Int) (w:World):Calls Tryz.prog 301 #[vI x] w (Is w (.bool (decide (1≤x∧x≤65536)))):=by
 refine (bZ Tryz.func301 9) ?_
 refine (JP∘Jp 1∘Jr∘Jp 3) (Ji (fun hd5=>?_) fun hd5=>?_)
 ·
  exact (Jp 4∘aF∘Jj∘JZ∘aH) fun E=>Lp om E.below
 exact (Jp 4∘aF∘Jj∘JZ∘aH) fun E=>bX om E.below
theorem qpp (x:Int) (w:World):Calls Tryz.prog 267 #[vI x] w (Is w (.bool (decide (1≤x∧x≤65536)))):=by
 refine (bZ Tryz.func267 9) ?_
 refine (JP∘Jp 1∘Jr∘Jp 3) (Ji (fun hd5=>?_) fun hd5=>?_)
 ·
  exact (Jp 4∘aF∘Jj∘JZ∘aH) fun E=>Lp om E.below
 exact (Jp 4∘aF∘Jj∘JZ∘aH) fun E=>bX om E.below
theorem qpq (x:Int) (w:World):Calls Tryz.prog 198 #[vI x] w (Is w (.bool (decide (1≤x∧x≤65536)))):=by
 refine (bZ Tryz.func198 9) ?_
 refine (JP∘Jp 1∘Jr∘Jp 3) (Ji (fun hd5=>?_) fun hd5=>?_)
 ·
  exact (Jp 4∘aF∘Jj∘JZ∘aH) fun E=>Lp om E.below
 exact (Jp 4∘aF∘Jj∘JZ∘aH) fun E=>bX om E.below
theorem qnf (x:Int) (w:World):Calls Tryz.prog 312 #[vI x] w (Is w (.bool (decide (1≤x∧x≤65536)))):=by
 refine (bZ Tryz.func312 9) ?_
 refine (JP∘Jp 1∘Jr∘Jp 3) (Ji (fun hd5=>?_) fun hd5=>?_)
 ·
  exact (Jp 4∘aF∘Jj∘JZ∘aH) fun E=>Lp om E.below
 exact (Jp 4∘aF∘Jj∘JZ∘aH) fun E=>bX om E.below
theorem zaq (W w:World) (gg gl lp:Nat) (A:Option Addr) (c:Nat) (l:List Gr) (g:Nat) (Inv:Nat→List Fact→Prop) (F0:List Fact) (hr:Rd W W.heap.size 2 A l.length (l.flatMap gZ)) (hn:l.length≤1000000) (hg:g<l.length) (hp:∀i,0<i→i≤g→gK l i)
    (hy:qud Tryz.prog W lp (gY l g+1) Inv) (hI0:Inv 0 F0) (E:Mem W w (.blk gg #[vI g] 3:: .blk gl #[.slice A l.length c] 42::F0)):
    Calls Tryz.prog 320 (.func (.yield lp) #[] #[]:: [vP gg 0,vP gl 0]).toArray w (q0s W (Inv (gY l g+1))):=by
 refine xO Tryz.func320 [.func (.yield lp) #[] #[],vP gg 0,vP gl 0] [(0,.func (.yield lp) #[] #[]),(1,vP gg 0),(2,vP gl 0)] fun a Z=>?_
 refine Jb Z E ((JB) fun a Z E=>?_)
 refine qc (fun mS aS wS=>∃(x:Nat) (i:Nat) (F:List Fact),(Inv i F)∧(x≤g)∧(gY l x+i=gY l g)∧mS=0+x∧Fr aS 16 [] [(0,.func (.yield lp) #[] #[]),(1,vP gg 0),(2,vP gl 0)]∧Mem W wS (.blk gg #[vI x] 3:: .blk gl #[.slice A l.length c] 42::F)) (m:=0+g) ⟨g,0,F0,hI0,Nat.le_refl _,Nat.add_zero _,rfl,Z.sub kr,E.pt 2 [0,1]⟩ ?_
 clear Z E;rintro mS a w_ ⟨x,i,F,hI,hxg,hd,rfl,Z,E⟩
 refine Jb Z E ((JQ) fun a Z E=>?_)
 refine wp_seq ?_
 refine qic (i:=2) ?_
 refine Jb Z E ((Jp 1∘Jc O0∘Jq) fun a Z E=>?_)
 refine Dv Z (i:=2) (vs:=[vI x]) rfl rfl rfl rfl rfl rfl de (hy i F [.blk gg #[vI x] 3,.blk gl #[.slice A l.length c] 42] _ (x:Int) hI om (Mem.zI (es:=F) E)) zk ?_
 clear Z E;rintro v nZ a ⟨F2,E,hv,hI2⟩ Z;injection hv with hv;subst hv
 replace E:Mem W nZ (.blk gg #[vI x] 3:: .blk gl #[.slice A l.length c] 42::F2):=Mem.zI (es:=[.blk gg #[vI x] 3,.blk gl #[.slice A l.length c] 42]) E
 refine Jb Z E ((Jp 1∘Jc O0∘Jp 2∘aF∘Jq) (Ju (fun fO=>?_) fun fO=>?_))
 ·
  intro a Z E
  have fM:=of_decide_eq_true fO
  have hx0:0<x:=by omega
  obtain ⟨hp1,hp2⟩:=hp x hx0 hxg
  obtain ⟨y,hy2⟩:∃y:Nat,(l.getD x Gr.zero).parent=(y:Int):=⟨(l.getD x Gr.zero).parent.toNat,by omega⟩
  have RZ:=Xc (l:=l) (g:=x) (fun i h0 hi=>hp i h0 om) hx0
  rw [hy2,Int.toNat_natCast] at RZ
  refine Jb Z E ((JT∘aG∘JB∘JR∘Jc O1∘Jc O0) ?_)
  repeat (first|clear Z|clear E)
  intro a Z E
  obtain ⟨gA,oA,rfl,_⟩:=hr.qd (Nat.lt_of_le_of_lt (Nat.zero_le _) (show x<l.length from by omega)) de
  refine Jb Z E ((Jy (h:=by exact Yl.ix gA oA x 2 rfl rfl rfl)∘Jf 0∘Jy (v:=vI ((l.getD x Gr.zero).parent)) (h:=by exact Yl.qj rfl rfl kr (fun _ h=>(by have:=(h.old hr).partAt zx (k:=x) (j:=0) (x:=(l.getD x Gr.zero)) ((getD_at Gr.zero om)) rfl;simpa using this)))∘Jo (vI y) (by rw [hy2])∘JW bg bg) fun Ht=>(E9∘Jq) fun a Z E=>?_)
  exact ⟨_,om,y,i+1,F2,hI2,by omega,by omega,rfl,Z.sub kr,E.pt 2 [0,1]⟩
 intro a Z E
 have fM:=of_decide_eq_false fO
 revert E;revert a;repeat (first|clear Z|clear E)
 intro a Z E
 obtain rfl:x=0:=by omega
 have hd0:=qpi l
 refine Jb Z E ((JF∘JX) fun a Z E=>?_)
 have hin:i+1=gY l g+1:=by omega
 rw [hin] at hI2
 exact nA rfl Z ⟨_,rfl,F2,Mem.SG [.blk gg #[vI 0] 3,.blk gl #[.slice A l.length c] 42] E,hI2⟩
theorem zdr (A:Option Addr) (n c:Nat) (g:Int) (w:World):
    Calls Tryz.prog 314 #[.slice A n c,vI g] w fun r w'=>∃gg gl,r= .returned (.func (.func 320) #[] #[vP gg 0,vP gl 0])∧Mem w w' [.blk gg #[vI g] 3,.blk gl #[.slice A n c] 42]:=by
 refine (jw Tryz.func314 6) ?_
 exact (JP∘M4) fun w2 g2=>(M4) fun w3 g3=>(Jp 1∘Jr∘Jy (h:=by exact Yl.makeFunc (fst:=[]) (caps:=[vP g3 0,vP g2 0]) rfl rfl rfl)∘Jp 1∘aQ∘Jj∘JZ∘aH) fun E=>by exact ⟨_,_,rfl,E.pk [0,1]⟩
theorem q1d (A:Option Addr) (c:Nat) (l:List Gr) (g:Nat) (w:World) (hr:Rd w w.heap.size 2 A l.length (l.flatMap gZ)) (hn:l.length≤1000000) (hg:g<l.length) (hp:∀i,0<i→i≤g→gK l i):
    Calls Tryz.prog 302 #[.slice A l.length c,vI g] w (Is w (vI (gY l g:Int))):=by
 have Xx:=zap hp
 refine V7 (vs:=[.slice A l.length c,vI g]) Tryz.func302 rfl rfl kr (σ0:=[(0,.slice A l.length c),(1,vI g)]) rfl ?_
 intro a Z
 have E:=Mem.start w
 refine Jb Z E ((JP∘Jp 1∘Jr∘JA #[vI 0]) fun w5 g5=>(JW bg bg) fun WV=>(Jj∘JQ∘JP∘Jp 2∘JL (h:=by exact fun E=>zdr A l.length c (g:Int) _)) ?_)
 rintro E _ w8 ⟨gg,gl,rfl,hm⟩
 refine ⟨_,rfl,_,E.join hm,?_⟩
 refine (aT∘Jj∘JB) fun a Z E=>?_
 refine V6 Z E (fun F=>F=[.blk g5 #[vI (((gY l g+1):Int)-1)] 3]) (fun _ _=>False) rfl kr ?_ ?_ (fun _ _ _ _ _ h=>h.elim)
 ·
  clear Z E;intro lp B rec w1 hrec E
  have hy:qud Tryz.prog w lp (gY l g+1) (fun i F=>F=(.obj lp (.loop (rec .ready none)):: .obj B (.deferred (some [])):: [.blk g5 #[vI ((i:Int)-1)] 3])):=by
   rintro i F fr w3 x rfl hi E
   replace E:Mem w _ (.obj lp (.loop (rec .ready none)):: .obj B (.deferred (some [])):: .blk g5 #[vI ((i:Int)-1)] 3::fr):=E
   refine qpj (v1:=vI x) hrec E de fun a Z=>?_
   refine wpIn_skip ?_
   refine ⟨(.obj B (.deferred (some [])):: .blk g5 #[vI ((i:Int)-1)] 3::fr),E.pt (fs':=(.obj lp (.loop (rec .ready none)):: .obj B (.deferred (some [])):: .blk g5 #[vI ((i:Int)-1)] 3::fr)) 3 [0,1,2],fun w4 E=>?_⟩
   refine wpIn_block ?_
   refine Fa ?_
   refine Jb Z E ((Jc O2∘Jp 1∘Jo (vI (((i+1:Nat):Int)-1)) (by have hdl:=Xx;exact (Dp ⟨by omega,by omega⟩).trans (congrArg (Value.int .i64) om))∘JW gH bg) fun DJ=>(Dr∘Jq) fun a Z E=>?_)
   refine ⟨(.obj B (.deferred (some [])):: .blk g5 #[vI (((i+1:Nat):Int)-1)] 3::fr),E.pt (fs':=(.obj lp (.loop (rec .busy none)):: .obj B (.deferred (some [])):: .blk g5 #[vI (((i+1:Nat):Int)-1)] 3::fr)) 3 [0,1,2],fun w5 E=>?_⟩
   exact ⟨(.obj lp (.loop (rec .ready none)):: .obj B (.deferred (some [])):: .blk g5 #[vI (((i+1:Nat):Int)-1)] 3:: []),E,rfl,rfl⟩
  refine (zaq w w1 gg gl lp A c l g _ _ hr hn hg hp hy rfl (E.pk [2,3,0,1,4])).mono ?_
  rintro r w2 ⟨v,rfl,F2,eX,rfl⟩
  exact ⟨v,rfl,.inl ⟨_,rfl,eX⟩⟩
 clear Z E;rintro B a w6 _ rfl Z E
 refine Jb Z E ((JG∘JP∘Jc O1∘Jp 1∘aQ∘Jj∘JZ) fun a Z E=>?_)
 refine SH Z E (i:=0) rfl fun a w7 Z E=>?_
 exact jB rfl Z rfl (⟨by congr 2;omega,E.below⟩)
theorem qw4 (A:Option Addr) (c:Nat) (l:List Gr) (hok:∀x∈l,x.Ok) (w:World) (hr:Rd w w.heap.size 2 A l.length (l.flatMap gZ)) (hn:l.length≤1000000):
    Calls Tryz.prog 261 #[.slice A l.length c] w (Xj w l):=by
 refine (bZ Tryz.func261 58) ?_
 refine (JP∘Jp 2∘Jj∘JQ∘JB∘JP∘Jp 1∘Jl∘Jp 2∘bQ∘Jj) (Ji (fun hd5=>?_) fun hd5=>?_)
 ·
  exact (JT∘JP∘Jp 2∘Jj∘JZ∘bW) fun E=>Ik (Ij om) de E.below
 refine (JF∘JP∘Jp 1∘Jl∘Jp 2) (Ju (fun dS=>?_) fun dS=>?_)
 ·
  intro a Z E
  have kU:=eq_of_beq dS
  exact Jb Z E ((Jp 7∘aF∘Jj∘JT∘JP∘Jp 2∘Jj∘JZ∘bW) fun E=>Ik (Ij om) de E.below)
 intro a Z E
 have kU:=ne_of_beq_false dS
 revert E;revert a;repeat (first|clear Z|clear E)
 intro a Z E
 obtain ⟨gA,oA,rfl,_⟩:=hr.qd (Nat.lt_of_le_of_lt (Nat.zero_le _) (show 0<l.length from by omega)) de
 refine Jb Z E ((Jp 1∘Jy (v:=vP gA oA) (h:=by exact Yl.indexAddr (ad:=⟨gA,oA,none⟩) (y:=0) (sz:=2) rfl rfl rfl om kr)∘Jy (v:= .agg ((l.getD 0 Gr.zero).cells)) (h:=by exact Yl.qf rfl rfl nC rfl (fun _ h=>(h.old hr).qm zx ((getD_at Gr.zero om))))∘Jy (v:= .agg #[vI 0,vI 1]) (h:=by exact Yl.build (vs:=[(1,vI 1)]) rfl kr kr)∘Jy (v:= .bool (!(decide ((l.getD 0 Gr.zero)=⟨0,1⟩)))) (h:=by exact Yl.MU rfl rfl rfl (qug (l.getD 0 Gr.zero) ⟨0,1⟩))∘Jp 2∘aF∘Jj) (Ju (fun lI=>?_) fun lI=>?_))
 ·
  intro a Z E
  have vv:=of_decide_eq_false ((Bool.not_eq_true' _).mp lI)
  exact Jb Z E ((JT∘JP∘Jp 2∘Jj∘JZ∘bW) fun E=>Ik (Ij (fun h=>by rw [h.2.2] at lI;simp at lI)) de E.below)
 intro a Z E
 have vv:=of_decide_eq_true ((Bool.not_eq_false' _).mp lI)
 refine Jb Z E ((JF∘aG∘JQ∘JP∘Jp 1∘Jj∘JB) fun a Z E=>?_)
 refine qc (fun mS aS wS=>∃(g:Nat),(1≤g)∧(g≤l.length)∧(bL g (sj l))∧mS=l.length-g∧Fr aS 58 [] [(4,vI g),(9,.bool false),(5,.bool false),(3,vI 0),(2,vI 0),(0,.slice (some ⟨gA,oA,none⟩) l.length c)]∧Mem w wS []) (m:=l.length-1) ⟨1,Nat.le_refl _,by omega,bL.zero.succ (quf l),rfl,Z.sub kr,E.pk []⟩ ?_
 clear Z E;rintro mS a w_ ⟨g,hg1,hgl,hu,rfl,Z,E⟩
 refine Jb Z E ((JQ∘JP∘Jp 2∘Jl∘Jp 1∘bQ∘Jj) (Ju (fun fU=>?_) fun fU=>?_))
 ·
  intro a Z E
  have oF:=of_decide_eq_true fU
  have zX:g<l.length:=by omega
  have TA:=hok _ (qi Gr.zero zX)
  have hOp:=TA.parent
  unfold bP at hOp
  have Xy:=TA.weight
  unfold bP at Xy
  refine Jb Z E ((JT∘aG∘JQ∘JB∘JB∘JP∘Jp 2∘Jy (h:=by exact Yl.ix gA oA g 2 rfl rfl rfl)∘Jf 0∘Jy (v:=vI ((l.getD g Gr.zero).parent)) (h:=by exact Yl.qj rfl rfl kr (fun _ h=>(by have:=(h.old hr).partAt zx (k:=g) (j:=0) (x:=(l.getD g Gr.zero)) ((getD_at Gr.zero om)) rfl;simpa using this)))∘Jp 2) (Ji (fun vG=>?_) fun vG=>?_))
  ·
   exact (Jv 9 [(26,.bool true)]∘aF∘Jj∘JT∘JP∘Jp 3∘Jj∘JZ∘bW) fun E=>Ik (Ls zX (Lu om om)) de E.below
  refine (Jp 2∘Jy (h:=by exact Yl.ix gA oA g 2 rfl rfl rfl)∘Jf 0∘Jy (v:=vI ((l.getD g Gr.zero).parent)) (h:=by exact Yl.qj rfl rfl kr (fun _ h=>(by have:=(h.old hr).partAt zx (k:=g) (j:=0) (x:=(l.getD g Gr.zero)) ((getD_at Gr.zero om)) rfl;simpa using this)))∘Jp 4∘aF∘Jj) (Ju (fun kR=>?_) fun kR=>?_)
  ·
   intro a Z E
   have zY:=of_decide_eq_true kR
   exact Jb Z E ((JT∘JP∘Jp 3∘Jj∘JZ∘bW) fun E=>Ik (Ls zX (Lu om om)) de E.below)
  intro a Z E
  have zY:=of_decide_eq_false kR
  have hpg:=q0u hu ⟨by omega,by omega⟩
  refine Jb Z E ((JF∘JP∘Jp 2∘Jy (h:=by exact Yl.ix gA oA g 2 rfl rfl rfl)∘Jf 1∘Jy (v:=vI ((l.getD g Gr.zero).weight)) (h:=by exact Yl.qj rfl rfl kr (fun _ h=>(h.old hr).partAt zx (k:=g) (j:=1) (x:=(l.getD g Gr.zero)) ((getD_at Gr.zero om)) rfl))∘JL (h:=by exact fun E=>qpo ((l.getD g Gr.zero).weight) _)) ?_)
  rintro E _ TB ⟨rfl,hbw⟩
  refine ⟨_,rfl,_,E.call hbw,?_⟩
  refine (Jp 2∘aF∘Jj) (VX (fun uZ=>?_) fun uZ=>?_)
  ·
   exact (JT∘JP∘Jp 3∘Jj∘JZ∘bW) fun E=>Ik (Ls zX (Lu om om)) de E.below
  refine (JF∘JP∘Jp 2∘JI (h:=by exact fun E=>q1d (some ⟨gA,oA,none⟩) c l g _ (E.old hr) hn om hpg)) fun FI hbw=>(Jp 2∘eZ∘Jj) (Ji (fun zZ=>?_) fun zZ=>?_)
  ·
   exact (JT∘JP∘Jp 3∘Jj∘JZ∘bW) fun E=>Ik (Ls zX (Lu om om)) de E.below
  refine (JF∘aG∘JR∘Jp 1∘bn 1∘Jp 1∘aT∘Jq) fun a Z E=>?_
  exact ⟨_,om,g+1,by omega,by omega,hu.succ (q0t ⟨by omega,by omega,by omega,by omega⟩),rfl,Z.sub kr,E.pk []⟩
 intro a Z E
 have oF:=of_decide_eq_false fU
 exact Jb Z E ((JF∘JX∘JG∘JP∘Jp 2∘Jj∘JZ∘bW) fun E=>by exact qr4 (que ⟨by omega,by omega,by simpa using lI⟩ (fun i hi=>hu i om)) E.below)
theorem qw5 (A:Option Addr) (c:Nat) (l:List Gr) (hok:∀x∈l,x.Ok) (w:World) (hr:Rd w w.heap.size 2 A l.length (l.flatMap gZ)) (hn:l.length≤1000000):
    Calls Tryz.prog 191 #[.slice A l.length c] w (Is w (.bool (jv l))):=by
 refine (bZ Tryz.func191 12) ?_
 refine (JP∘Jp 1∘Jr∘Jp 1∘JL (h:=by exact fun E=>qw4 A c l hok _ (E.old hr) hn)) ?_
 rintro E _ w7 ⟨⟨i,e,rfl,he⟩,hbw⟩
 refine ⟨_,rfl,_,E.call hbw,?_⟩
 exact (Jp 1∘Jx∘Jx∘Jp 2∘aF∘Jr∘Jp 3∘bQ∘Jj∘JZ∘aH) fun E=>aM he E.below
theorem qlr (v r:Nat) (wt:Int) (hv:v<18446744073709551616) (hr:r<4294967296) (hw:0≤wt∧wt<4294967296) (w:World):
    Calls Tryz.prog 218 #[.agg #[vQ v,vW r,vW wt]] w (Is w (.bool (iC v r wt))):=by
 obtain ⟨z,rfl⟩:∃z:Nat,wt=(z:Int):=⟨wt.toNat,by omega⟩
 refine (bZ Tryz.func218 24) ?_
 refine (JP∘JE) fun w1 g1=>(Jp 1∘Jr∘Jg 2 O0∘Jw .i64∘JL (h:=by exact fun E=>qpp (z:Int) _)) ?_
 rintro E _ w6 ⟨rfl,hbw⟩
 refine ⟨_,rfl,_,E.call hbw,?_⟩
 refine (Jp 1) (Ji (fun hd7=>?_) fun hd7=>?_)
 ·
  refine (Jg 1 O0∘Jg 2 O0∘Jp 3) (Ji (fun kV=>?_) fun kV=>?_)
  ·
   refine (Jg 0 O0∘Jp 2) (Ji (fun kQ=>?_) fun kQ=>?_)
   ·
    exact (Jp 6∘aF∘Jj∘JZ∘aH) fun E=>Lr om E.below
   exact (Jg 1 O0∘Jp 4∘aF∘Jj∘JZ∘aH) fun E=>Lp om E.below
  exact (Jv 10 [(2,.bool false)]∘aF∘Jj∘JZ∘aH) fun E=>bX om E.below
 exact (Jv 17 [(2,.bool false)]∘eZ∘Jj∘JZ∘aH) fun E=>bX om E.below
theorem qls (v r:Nat) (wt:Int) (hw:0≤wt∧wt<4294967296) (w:World):
    Calls Tryz.prog 208 #[vQ v,vW r,vI wt] w (Is w (.agg #[vQ v,vW r,vW wt])):=by
 obtain ⟨z,rfl⟩:∃z:Nat,wt=(z:Int):=⟨wt.toNat,by omega⟩
 refine (Hg Tryz.func208 12) ?_
 refine (JP∘JA #[vQ 0,vW 0,vW 0]) fun w6 g6=>(Jr∘Jp 3∘Jv 1 [(10,vW (IntKind.u32.wrap (z:Int)))]∘Jo (vW z) (by exact E8 rfl om)∘Jy (v:= .agg #[vQ v,vW r,vW z]) (h:=by exact Yl.build (vs:=[(0,vQ v),(1,vW r),(2,vW z)]) rfl kr kr)∘JV q8s bg) fun Ht=>(E9∘Jj∘JZ) fun a Z E=>?_
 exact nN rfl Z (.cellS (i:=0) Z E rfl rfl q8s rfl) (⟨rfl,E.below⟩)
theorem q6g (m n:Nat) (hm:m<18446744073709551616) (hn:1≤n∧n≤64) (w:World):
    Calls Tryz.prog 199 #[vQ m,vI n] w (Is w (.bool (decide (2^n≤m)))):=by
 refine (jw Tryz.func199 11) ?_
 exact (JP∘Jp 1∘Jr∘Jp 2∘yO 1∘Jy (v:=vQ (m/2^ (n-1):Nat)) (h:=by exact Yl.xZ (m:=m) (n:=(n-1)) rfl rfl rfl (by show _≤64;omega))∘Jp 1∘Jo (vQ ((m/2^ (n-1))/2:Nat)) (by exact Dn .u64 (m/2^ (n-1)) (j:=1) (q:=2) rfl rfl)∘Jp 2∘aF∘Jj∘JZ∘aH) fun E=>aM (zal hn.1) E.below
theorem qgg (x : dK) (t : Tk) (hok : t.Ok) (hx : 1 ≤ x.aB ∧ x.aB ≤ 64) (hf : x.rs.length ≤ 1000000) (w : World) :
    Calls Tryz.prog 219 #[.agg x.cells,.agg t.cells] w (Is w (.bool (dF x.aD t))):=by
 obtain ⟨n,hn⟩:∃n:Nat,x.aB=(n:Int):=⟨x.aB.toNat,by omega⟩
 have Il:1≤n∧n≤64:=by omega
 have hv:=hok.v
 have hr:=hok.r
 have hi:=hok.id
 have hg:=hok.group
 have hc:=hok.cpu
 have hw:=hok.weight
 have hm:=hok.mask
 unfold bP at hi hg hc hw
 refine (jw Tryz.func219 72) ?_
 refine (JP∘JE) fun w2 g2=>(JE) fun w3 g3=>(Jp 1∘Jr∘Jg 0 O0∘Jp 2) (Ji (fun pQ=>?_) fun pQ=>?_)
 ·
  refine (Jg 0 O0∘Jp 3) (Ji (fun kU=>?_) fun kU=>?_)
  ·
   refine (Jg 1 O0∘Jp 3) (Ji (fun kQ=>?_) fun kQ=>?_)
   ·
    refine (Jg 1 O0∘Jg 6 O1∘Jl∘Jp 3) (Ji (fun zY=>?_) fun zY=>?_)
    ·
     refine (Jg 3 O0∘Jp 3) (Ji (fun hd31=>?_) fun hd31=>?_)
     ·
      refine (Jg 3 O0∘Jf 0∘Jg 0 O1∘Jp 3) (Ju (fun nP=>?_) fun nP=>?_)
      ·
       intro a Z E
       have hd39:=of_decide_eq_true nP
       obtain ⟨k,hk⟩:∃k:Nat,t.cpu=(k:Int):=⟨t.cpu.toNat,by omega⟩
       refine Jb Z E ((Jg 2 O0∘JL (h:=by exact fun E=>qpq t.weight _)) ?_)
       rintro E _ NV ⟨rfl,hbw⟩
       refine ⟨_,rfl,_,E.call hbw,?_⟩
       refine (Jp 2) (Ji (fun Im=>?_) fun Im=>?_)
       ·
        refine (Jg 4 O0∘Jf 0∘Jf 0∘Jc O1∘Jo (vI n) (by rw [hn])∘JI (h:=by exact fun E=>q6g t.mask n hok.mask Il _)) fun WL hbw=>(Jp 3) (Ju (fun rP=>?_) fun rP=>?_)
        ·
         intro a Z E
         have Aa:=of_decide_eq_false ((Bool.not_eq_true' _).mp rP)
         have hsh:=Nat.div_le_self t.mask (2^k)
         refine Jb Z E ((Jg 4 O0∘Jf 3∘Jc O0∘Jo (vI k) (by rw [hk])∘Jy (v:=vQ (t.mask/2^k:Nat)) (h:=by exact Yl.xZ (m:=t.mask) (n:=k) rfl rfl rfl (by show _≤64;omega))∘Jp 1∘Jo (vQ ((t.mask/2^k)%2:Nat)) (by exact q44 (n:=1) (j:=1) rfl de om)∘Jp 3) (Je (fun Xz=>?_) fun Xz=>?_))
         ·
          refine (Jg 6 O0∘Jg 7 O0∘Jg 2 O0∘JI (h:=by exact fun E=>qls t.v t.r t.weight om _)) fun XA hbw=>(JI (h:=by exact fun E=>qlr t.v t.r t.weight om om om _)) fun TD hbw=>(Jp 2∘aF∘Jq) fun a Z E=>?_
          replace Z:=Z.to [(4,.bool (iC t.v t.r t.weight))]
          exact Jb Z E ((JG∘JZ∘aH) fun E=>aM (Xi om om (by rw [hn,Int.toNat_natCast];simpa using rP) (by rw [hk,Int.toNat_natCast];omega)).symm E.below)
         refine (Jv 10 [(4,.bool false)]∘aF∘Jq) fun a Z E=>?_
         replace Z:=Z.to [(4,.bool false)]
         exact Jb Z E ((JG∘JZ∘aH) fun E=>aM (q8u (by rw [hk,Int.toNat_natCast];omega)).symm E.below)
        intro a Z E
        have Aa:=of_decide_eq_true ((Bool.not_eq_false' _).mp rP)
        exact Jb Z E ((Jv 19 [(4,.bool false)]∘aF∘Jj∘JZ∘aH) fun E=>aM (q8t (by rw [hn,Int.toNat_natCast];simpa using rP)).symm E.below)
       exact (Jv 28 [(4,.bool false)]∘aF∘Jj∘JZ∘aH) fun E=>aM (Xh om).symm E.below
      intro a Z E
      have hd39:=of_decide_eq_false nP
      exact Jb Z E ((Jv 33 [(4,.bool false)]∘aF∘Jj∘JZ∘aH) fun E=>aM (yR om).symm E.below)
     exact (Jv 41 [(4,.bool false)]∘aF∘Jj∘JZ∘aH) fun E=>aM (yR om).symm E.below
    exact (Jv 46 [(4,.bool false)]∘aF∘Jj∘JZ∘aH) fun E=>aM (yR om).symm E.below
   exact (Jv 54 [(4,.bool false)]∘aF∘Jj∘JZ∘aH) fun E=>aM (yR om).symm E.below
  exact (Jv 59 [(4,.bool false)]∘aF∘Jj∘JZ∘aH) fun E=>aM (yR om).symm E.below
 exact (Jv 64 [(4,.bool false)]∘bQ∘Jj∘JZ∘aH) fun E=>aM (yR om).symm E.below
theorem qjx (x:dK) (hok:x.aD.Ok) (hf:aX x) (w:World) (hx:cB w x):
    Calls Tryz.prog 146 #[.agg #[vI x.aB,vQ (x.ak:Int),.slice x.gA x.gs.length x.gc]] w (Is w (.bool (eO x.aD))):=by
 have hc:=hok.aB
 have hcr:=hok.ak
 replace hc:bP x.aB:=hc
 replace hcr:x.ak<18446744073709551616:=hcr
 unfold bP at hc
 refine (bZ Tryz.func146 21) ?_
 refine (JP∘JE) fun w1 g1=>(Jp 1∘Jr∘Jg 0 O0∘Jp 2) (Ji (fun hd6=>?_) fun hd6=>?_)
 ·
  refine (Jg 0 O0∘Jp 3) (Ji (fun gI=>?_) fun gI=>?_)
  ·
   refine (Jg 1 O0∘Jp 3) (Ju (fun gN=>?_) fun gN=>?_)
   ·
    intro a Z E
    have kL:=of_decide_eq_true gN
    exact Jb Z E ((Jg 2 O0∘JI (h:=by exact fun E=>qw5 x.gA x.gc x.gs hok.gs _ (E.old hx.g) hf.g)) fun FJ hbw=>(Jp 2∘aF∘Jj∘JZ∘aH) fun E=>aM (q0x om).symm E.below)
   intro a Z E
   have kL:=of_decide_eq_false gN
   exact Jb Z E ((Jp 5∘aF∘Jj∘JZ∘aH) fun E=>aM (Lv om).symm E.below)
  exact (Jv 10 [(2,.bool false)]∘aF∘Jj∘JZ∘aH) fun E=>aM (Lv om).symm E.below
 exact (Jv 15 [(2,.bool false)]∘bQ∘Jj∘JZ∘aH) fun E=>aM (Lv om).symm E.below
theorem q1e (t:Int) (w:World):Calls Tryz.prog 217 #[vI t] w (Is w (.bool (!gL t))):=by
 refine (bZ Tryz.func217 9) ?_
 refine (JP∘Jp 1∘Jr∘Jp 3) (Ji (fun hd5=>?_) fun hd5=>?_)
 ·
  exact (Jp 4∘aF∘Jj∘JZ∘aH) fun E=>aM (by first|(unfold gL;rw [decide_eq_false om];rfl)|(unfold gL;rw [←decide_not];exact decide_eq_decide.2 om)) E.below
 exact (Jp 4∘aF∘Jj∘JZ∘aH) fun E=>aM (by first|(unfold gL;rw [decide_eq_false om];rfl)|(unfold gL;rw [←decide_not];exact decide_eq_decide.2 om)) E.below
theorem qsb (A:Option Addr) (c:Nat) (l:List Int) (w:World) (hr:Rd w w.heap.size 1 A l.length (l.map bC)) (hn:l.length≤1000000):
    Calls Tryz.prog 270 #[.slice A l.length c,.func (.func 217) #[] #[]] w (zP w l.length (fun c=>gL (l.getD c 0))):=by
 refine (jw Tryz.func270 19) ?_
 refine (JP∘Jp 1∘Jj∘JQ∘JP∘Jp 1∘Jl∘Jp 1∘Jj∘JB) fun a Z E=>?_
 refine qc (fun mS aS wS=>∃(k:Nat),(k≤l.length)∧(bL k (fun c=>gL (l.getD c 0)))∧mS=l.length-k∧Fr aS 19 [] [(8,vI k),(7,vI l.length),(4,vI 0),(0,.slice A l.length c),(1,.func (.func 217) #[] #[])]∧Mem w wS []) (m:=l.length-0) ⟨0,Nat.zero_le _,bL.zero,rfl,Z.sub kr,E.pk []⟩ ?_
 clear Z E;rintro mS a w_ ⟨k,hk,hu,rfl,Z,E⟩
 refine Jb Z E ((JP∘Jp 1∘Jj∘JQ) (Ju (fun lI=>?_) fun lI=>?_))
 ·
  intro a Z E
  have vv:=of_decide_eq_true lI
  have yX:k<l.length:=by omega
  refine Jb Z E ((JT∘aG∘JQ∘JB∘JP∘Jp 2∘aQ∘Jr∘Jp 3) ?_)
  repeat (first|clear Z|clear E)
  intro a Z E
  obtain ⟨gA,oA,rfl,_⟩:=hr.qd (Nat.lt_of_le_of_lt (Nat.zero_le _) (show k<l.length from by omega)) de
  refine Jb Z E ((Jy (h:=by exact Yl.ix gA oA k 1 rfl rfl rfl)∘Jy (h:=by exact Yl.o1 hr k 0 om rfl rfl)) fun a Z E=>?_)
  refine fo Z 5 rfl rfl ?_
  refine rA Z (f:=217) (vs:=[vI (l.getD k 0)]) (fst:=[]) (caps:=[]) rfl rfl rfl kr rfl de (q1e (l.getD k 0) _) ?_
  rintro _ w16 ⟨rfl,hbw⟩
  refine ⟨_,rfl,?_⟩
  replace E:=E.call hbw
  clear Z;intro a Z
  refine Jb Z E ((jq∘Jj) (Ju (fun gN=>?_) fun gN=>?_))
  ·
   exact (JT∘JP∘Jp 2∘aQ∘Jj∘JZ∘aH) fun E=>qw2 yX (by simpa using gN) E.below
  refine (JF∘aG∘JR∘bn 1∘Jp 1∘aQ∘Jq) fun a Z E=>?_
  exact ⟨_,om,k+1,by omega,hu.succ (by simpa using gN),rfl,Z.sub kr,E.pk []⟩
 intro a Z E
 have vv:=of_decide_eq_false lI
 exact Jb Z E ((JF∘JX∘JG∘JP∘Jp 1∘Jj∘JZ∘aH) fun E=>qw3 (fun i hi=>hu i om) E.below)
theorem qku (A:Option Addr) (c:Nat) (l:List Int) (w:World) (hr:Rd w w.heap.size 1 A l.length (l.map bC)) (hn:l.length≤1000000):
    Calls Tryz.prog 216 #[.slice A l.length c,.func (.func 217) #[] #[]] w (Is w (.bool (!eB l.length (fun c=>gL (l.getD c 0))))):=by
 refine (jw Tryz.func216 9) ?_
 refine (JP∘Jp 1∘Jr∘Jp 2∘JL (h:=by exact fun E=>qsb A c l _ (E.old hr) hn)) ?_
 rintro E _ w7 ⟨⟨i,rfl,he⟩,hbw⟩
 refine ⟨_,rfl,_,E.call hbw,?_⟩
 exact (Jp 2∘eZ∘Jj∘JZ∘aH) fun E=>aM he E.below
theorem qw6 (x:dK) (hok:x.aD.Ok) (hf:aX x) (w:World) (hx:cB w x):
    Calls Tryz.prog 160 #[.agg x.cells] w (Is w (.bool (zw x.aD))):=by
 have hfs:=hf.s;have hft:=hf.t;have hfg:=hf.g;have hfl:=hf.l;have hfu:=hf.u
 refine (bZ Tryz.func160 123) ?_
 refine (JP∘JE) fun w1 g1=>(Jp 1∘Jj∘JQ∘JP∘Jf 0∘Jy (v:= .agg #[vI x.aB,vQ x.ak,.slice x.gA x.gs.length x.gc]) (h:=by exact Yl.qf rfl rfl uL rfl (fun _ h=>h.sub (i:=0) rfl 0 rfl))∘JI (h:=by exact fun E=>qjx x hok hf _ (hx.old E))) fun wN hbw=>(Jp 2) (Ju (fun dS=>?_) fun dS=>?_)
 ·
  exact (Jv 27 [(40,.bool true)]∘jq∘Jj∘JT∘JP∘Jp 1∘Jj∘JZ∘aH) fun E=>aM (zdp (by simpa using dS)).symm E.below
 intro a Z E
 have hcf:eO x.aD=true:=by simpa using dS
 obtain ⟨hc1,hc2,hc3,hgs⟩:=yS hcf
 have hcp:1≤x.aB∧x.aB≤64:=⟨hc1,hc2⟩
 refine Jb Z E ((Jg 3 O0∘Jl∘Jf 0∘Jg 0 O0∘Jp 3) (Jh (fun jf=>?_) fun jf=>?_))
 ·
  exact (Jv 18 [(40,.bool true)]∘aF∘Jj∘JT∘JP∘Jp 1∘Jj∘JZ∘aH) fun E=>aM (Xk om).symm E.below
 refine (Jg 4 O0∘Jl∘Jf 0∘Jg 0 O0∘Jp 3) (Jh (fun hd31=>?_) fun hd31=>?_)
 ·
  exact (Jv 9 [(40,.bool true)]∘aF∘Jj∘JT∘JP∘Jp 1∘Jj∘JZ∘aH) fun E=>aM (Xk om).symm E.below
 refine (Jg 6 O0∘Jl∘Jf 0∘Jg 2 O0∘Jl∘Jp 2∘aF∘Jj) (Jh (fun rH=>?_) fun rH=>?_)
 ·
  exact (JT∘JP∘Jp 1∘Jj∘JZ∘aH) fun E=>aM (Xk om).symm E.below
 refine (JF∘aG∘JQ∘JP∘Jg 3 O0∘JI (h:=by exact fun E=>qku x.lA x.lc x.cl _ (E.old hx.l) hf.l)) fun Hw hbw=>(aQ∘Jj) (Ju (fun kN=>?_) fun kN=>?_)
 ·
  exact (JT∘JP∘Jp 1∘Jj∘JZ∘aH) fun E=>aM (NP (by simpa using kN)).symm E.below
 intro a Z E
 have hcl:eB x.cl.length (fun c=>gL (x.cl.getD c 0))=true:=by simpa using kN
 refine Jb Z E ((JF∘aG∘JQ∘JP∘Jg 6 O0∘Jl∘Jp 1∘Jj∘JB) fun a Z E=>?_)
 refine qc (fun mS aS wS=>∃(g:Nat),(g≤x.rs.length)∧(bL g (rowOk x.aD))∧mS=x.rs.length-g∧Fr aS 123 [] [(47,vI g),(46,vI x.rs.length),(45,.slice x.sA x.rs.length x.sc),(43,.bool false),(40,.bool false),(2,.bool false),(1,vP g1 0)]∧Mem w wS [.blk g1 x.cells 48]) (m:=x.rs.length-0) ⟨0,Nat.zero_le _,bL.zero,rfl,Z.sub kr,E.pk [0]⟩ ?_
 clear Z E;rintro mS a w_ ⟨g,hg,hu,rfl,Z,E⟩
 refine Jb Z E ((JP∘Jp 1∘Jj∘JQ) (Ju (fun hb48=>?_) fun hb48=>?_))
 ·
  intro a Z E
  have XB:=of_decide_eq_true hb48
  have iD:g<x.rs.length:=by omega
  obtain ⟨y,hy⟩:∃z,x.rs.getD g Rw.zero=z:=⟨_,rfl⟩
  have jG:Rd w w.heap.size 3 y.A y.l.length (y.l.flatMap jy):=by rw [←hy];exact hx.row iD
  have hyl:y.l.length≤1000000:=by rw [←hy];exact hf.r _ (qi Rw.zero iD)
  have DT:∀z∈y.l,z.Ok:=by rw [←hy,←kC iD];exact hok.sp _ (qi [] (by rw [rO];exact iD))
  obtain ⟨wt,hwt⟩:∃z,(x.gs.getD g Gr.zero).weight=z:=⟨_,rfl⟩
  have hw1:=zR hgs (show g<x.gs.length by omega)
  rw [hwt] at hw1
  obtain ⟨dU,dV,hq1,_⟩:=Rd.qd hx.g (Nat.lt_of_le_of_lt (Nat.zero_le _) (show g<x.gs.length from by omega)) de
  have aZ:=hx.g;rw [hq1] at aZ
  refine Jb Z E ((JT∘aG∘JQ∘JB∘JP∘Jp 1) fun a Z E=>?_)
  obtain ⟨mW,mX,hq2,_⟩:=Rd.qd hx.s (Nat.lt_of_le_of_lt (Nat.zero_le _) (show g<x.rs.length from by omega)) de
  have iq:=hx.s;rw [hq2] at iq
  replace Z:=Z.sp 45 (.slice (some ⟨mW,mX,none⟩) x.rs.length x.sc) rfl (by rw [hq2];try rfl)
  refine Jb Z E ((Jy (h:=by exact Yl.ix mW mX g 1 rfl rfl rfl)∘Jy (v:= .slice ((x.rs.getD g Rw.zero).A) ((x.rs.getD g Rw.zero).l.length) ((x.rs.getD g Rw.zero).c)) (h:=by exact Yl.o1 iq g Rw.zero (by first|omega|(simp;omega)) rfl rfl)∘Jo (.slice y.A y.l.length y.c) (by rw [hy])∘Jp 2∘Jj∘JQ∘JP∘Jp 1∘Jl∘Jf 0∘Jg 0 O0∘Jp 1∘eZ∘Jj) (Jh (fun Io=>?_) fun Io=>?_))
  ·
   exact (JT∘JP∘Jp 1∘Jj∘JZ∘aH) fun E=>aM (q8v iD (q0z iD (by rw [hy];omega))).symm E.below
  refine (JF∘aG∘JP∘Jp 1∘Jl∘Jp 1∘Jj∘JB) fun a Z E=>?_
  refine qc (fun mS aS wS=>∃(c:Nat),(c≤y.l.length)∧(bL c (fun c=>gu x.aD g (y.l.getD c Sp.zero)))∧mS=y.l.length-c∧Fr aS 123 [] [(60,vI c),(59,vI y.l.length),(58,.slice y.A y.l.length y.c),(57,.bool false),(4,.slice y.A y.l.length y.c),(3,vI g),(45,.slice (some ⟨mW,mX,none⟩) x.rs.length x.sc),(48,.bool true),(47,vI g),(46,vI x.rs.length),(43,.bool false),(40,.bool false),(2,.bool false),(1,vP g1 0)]∧Mem w wS [.blk g1 x.cells 48]) (m:=y.l.length-0) ⟨0,Nat.zero_le _,bL.zero,rfl,Z.sub kr,E.pk [0]⟩ ?_
  clear Z E;rintro mS a w_ ⟨c,hc,hu2,rfl,Z,E⟩
  refine Jb Z E ((JP∘Jp 1∘Jj∘JQ) (Ju (fun oG=>?_) fun oG=>?_))
  ·
   intro a Z E
   have Ac:=of_decide_eq_true oG
   have vH:c<y.l.length:=by omega
   obtain ⟨z,hz⟩:∃q,y.l.getD c Sp.zero=q:=⟨_,rfl⟩
   have yc:=DT _ (qi Sp.zero vH)
   rw [hz] at yc
   have hzv:=yc.v;have XC:=yc.r
   refine Jb Z E ((JT∘aG∘JQ∘JB∘JP) fun a Z E=>?_)
   obtain ⟨lK,lM,hq3,_⟩:=Rd.qd jG (Nat.lt_of_le_of_lt (Nat.zero_le _) (show c<y.l.length from by omega)) de
   have gB:=jG;rw [hq3] at gB
   replace Z:=Z.sp 58 (.slice (some ⟨lK,lM,none⟩) y.l.length y.c) rfl (by rw [hq3];try rfl)
   refine Jb Z E ((Jy (h:=by exact Yl.ix lK lM c 3 rfl rfl rfl)∘Jy (v:= .agg ((y.l.getD c Sp.zero).cells)) (h:=by exact Yl.qf rfl rfl kD rfl (fun _ h=>(h.old gB).qm vF ((getD_at Sp.zero vH))))∘Jo (.agg z.cells) (by rw [hz])∘JA #[vQ 0,vW 0,vQ 0]) fun w6 g6=>(JV kD bg (h1:=by exact Xe z)) fun NW=>(aT∘Jj) fun a Z E=>?_)
   refine zn (fun aS wS=>Fr aS 123 [] [(91,.bool (!gu x.aD g z)),(6,vP g6 0),(58,.slice (some ⟨lK,lM,none⟩) y.l.length y.c),(61,.bool true),(60,vI c),(59,vI y.l.length),(57,.bool false),(4,.slice y.A y.l.length y.c),(3,vI g),(45,.slice (some ⟨mW,mX,none⟩) x.rs.length x.sc),(48,.bool true),(47,vI g),(46,vI x.rs.length),(43,.bool false),(40,.bool false),(2,.bool false),(1,vP g1 0)]∧Mem w wS [.blk g6 z.cells 200,.blk g1 x.cells 48]) ?_ ?_
   ·
    refine Jb Z E ((Vs .n []) fun DN=>(Vf 0 0∘Vf 2 1∘Vf 4 0∘Vf 5 2∘Vp [7]∘Vc 1 O0∘Vc 3 O0∘Vc 6 O1) fun a Z E HS=>?_)
    replace Z:=Z.sp 70 (.slice (some ⟨dU,dV,none⟩) x.gs.length x.gc) rfl (by rw [hq1];try rfl)
    refine Vb Z E HS ((Vy 8 (h:=by exact Yl.ix dU dV g 2 rfl rfl rfl)∘Vf 9 1∘Vy 10 (v:=vI ((x.gs.getD g Gr.zero).weight)) (h:=by exact Yl.qj rfl rfl kr (fun _ h=>(h.old aZ).partAt zx (k:=g) (j:=1) (x:=(x.gs.getD g Gr.zero)) ((getD_at Gr.zero om)) rfl))∘Vo (vI wt) (by rw [hwt])∘VI 11 .n (h:=by exact fun E=>qls z.v z.r wt om _)) fun w75 hbw=>(VI 12 .n (h:=by exact fun E=>qlr z.v z.r wt om om om _)) fun w76 hbw=>(Vp [13,14]) fun a Z E HS=>?_)
    rcases Z.tf 78 rfl with ⟨sZ,Z⟩|⟨sZ,Z⟩
    ·
     refine Vb Z E HS ((Vq [15,16,17,18,19,20,21,22,23,24,25,26,27] [(91,.bool true)]∘Vd∘aF) fun a Z E=>?_)
     have Z:=Z.sp 91 (.bool (!gu x.aD g z)) rfl (congrArg Value.bool (by rw [q8w (by rw [hwt];simpa using sZ)];rfl))
     exact ⟨Z.sub kr,E.pk [0,1]⟩
    refine ap Z (fun _=>HS) [15,16,17] (bt 28 [18,19,20,21,22,23,24,25,26,27]) [(81,.bool ((g:Int)==(0:Int)))] fun a Z=>?_
    refine Jb Z E (Je (fun XD=>?_) fun XD=>?_)
    ·
     intro a Z E
     refine ap Z (fun _=>HS) [18] (bt 28 [19,20,21,22,23,24,25,26,27]) [(82,vP g6 0)] fun a Z=>?_
     refine iJ Z HS 19 0 (v:=vQ z.v) fun a Z=>?_
     refine ap Z (fun _=>HS) [20,21] (bt 28 [22,23,24,25,26,27]) [(85,.bool ((z.v:Int) !=(0:Int)))] fun a Z=>?_
     refine Jb Z E (Jh (fun XE=>?_) fun XE=>?_)
     ·
      intro a Z E
      refine ap Z (fun _=>HS) [22,23,24,25,26,27] (bt 28 []) [(91,.bool true)] fun a Z=>?_
      refine qg kr ?_
      have Z:=Z.sp 91 (.bool (!gu x.aD g z)) rfl (congrArg Value.bool (by rw [q8x om om];rfl))
      exact ⟨Z.sub kr,E.pk [0,1]⟩
     intro a Z E
     refine ap Z (fun _=>HS) [22] (bt 28 [23,24,25,26,27]) [(86,vP g6 1)] fun a Z=>?_
     refine iJ Z HS 23 0 (v:=vW z.r) fun a Z=>?_
     refine ap Z (fun _=>HS) [24,25,26,27] (bt 28 []) [(91,.bool ((z.r:Int) !=(0:Int)))] fun a Z=>?_
     refine qg kr ?_
     have Z:=Z.sp 91 (.bool (!gu x.aD g z)) rfl (congrArg Value.bool (q03 (by rw [hwt];simpa using sZ) om om))
     exact ⟨Z.sub kr,E.pk [0,1]⟩
    intro a Z E
    refine ap Z (fun _=>HS) [18,19,20,21,22,23,24,25,26,27] (bt 28 []) [(91,.bool false)] fun a Z=>?_
    refine qg kr ?_
    have Z:=Z.sp 91 (.bool (!gu x.aD g z)) rfl (congrArg Value.bool (by rw [q02 (by rw [hwt];simpa using sZ) om];rfl))
    exact ⟨Z.sub kr,E.pk [0,1]⟩
   clear Z E;rintro a wP ⟨Z,E⟩
   refine Jb Z E (Ju (fun mY=>?_) fun mY=>?_)
   ·
    exact (JT∘JP∘Jp 1∘Jj∘JZ∘aH) fun E=>aM (q8v iD (q00 iD (by rw [hy];exact vH) (by rw [hy,hz];simpa using mY))).symm E.below
   refine (JF∘aG∘JR∘bn 1∘Jp 1∘aQ∘Jq) fun a Z E=>?_
   replace Z:=Z.sp 58 (.slice y.A y.l.length y.c) rfl (by rw [hq3])
   exact ⟨_,om,c+1,by omega,hu2.succ (by rw [hz];simpa using mY),rfl,Z.sub kr,E.pk [1]⟩
  intro a Z E
  have Ac:=of_decide_eq_false oG
  refine Jb Z E ((JF∘JX∘JG∘JR∘bn 1∘Jp 1∘aQ∘Jq) fun a Z E=>?_)
  replace Z:=Z.sp 45 (.slice x.sA x.rs.length x.sc) rfl (by rw [hq2])
  exact ⟨_,om,g+1,by omega,hu.succ (q01 iD (by rw [hy];omega) (by rw [hy];exact fun i hi=>hu2 i om)),rfl,Z.sub kr,E.pk [0]⟩
 intro a Z E
 have XB:=of_decide_eq_false hb48
 refine Jb Z E ((JF∘JX∘JG∘JQ∘JP∘Jg 5 O0∘Jl∘Jp 1∘Jj∘JB) fun a Z E=>?_)
 refine qc (fun mS aS wS=>∃(i:Nat),(i≤x.ts.length)∧(bL i (fC x.aD))∧mS=x.ts.length-i∧Fr aS 123 [] [(97,vI i),(96,vI x.ts.length),(95,.slice x.tA x.ts.length x.tc),(48,.bool false),(47,vI g),(46,vI x.rs.length),(45,.slice x.sA x.rs.length x.sc),(43,.bool false),(40,.bool false),(2,.bool false),(1,vP g1 0)]∧Mem w wS [.blk g1 x.cells 48]) (m:=x.ts.length-0) ⟨0,Nat.zero_le _,bL.zero,rfl,Z.sub kr,E.pk [0]⟩ ?_
 clear Z E;rintro mS a w_ ⟨i,hi,hu3,rfl,Z,E⟩
 refine Jb Z E ((JP∘Jp 1∘Jj∘JQ) (Ju (fun Ip=>?_) fun Ip=>?_))
 ·
  intro a Z E
  have hd98:=of_decide_eq_true Ip
  have jH:i<x.ts.length:=by omega
  obtain ⟨t,ht⟩:∃q,x.ts.getD i Tk.zero=q:=⟨_,rfl⟩
  have rQ:t.Ok:=by rw [←ht];exact hok.ts _ (qi Tk.zero jH)
  have hti:=rQ.id
  unfold bP at hti
  refine Jb Z E ((JT∘aG∘JQ∘JB∘JP∘Jp 1) fun a Z E=>?_)
  obtain ⟨lX,lY,hq4,_⟩:=Rd.qd hx.t (Nat.lt_of_le_of_lt (Nat.zero_le _) (show i<x.ts.length from by omega)) de
  have gP:=hx.t;rw [hq4] at gP
  replace Z:=Z.sp 95 (.slice (some ⟨lX,lY,none⟩) x.ts.length x.tc) rfl (by rw [hq4];try rfl)
  refine Jb Z E ((Jy (h:=by exact Yl.ix lX lY i 8 rfl rfl rfl)∘Jy (v:= .agg ((x.ts.getD i Tk.zero).cells)) (h:=by exact Yl.qf rfl rfl eU rfl (fun _ h=>(h.old gP).qm sw ((getD_at Tk.zero jH))))∘Jo (.agg t.cells) (by rw [ht])∘JA #[vI 0,vI 0,vI 0,vI 0,vQ 0,.bool false,vQ 0,vW 0]) fun w8 g8=>(Jp 1∘JV eU bg (h1:=by exact Lm t)) fun aeb=>(Jj) fun a Z E=>?_)
  refine zn (fun aS wS=>Fr aS 123 [] [(121,.bool (!fC x.aD i)),(7,vI i),(8,vP g8 0),(95,.slice (some ⟨lX,lY,none⟩) x.ts.length x.tc),(98,.bool true),(97,vI i),(96,vI x.ts.length),(48,.bool false),(47,vI g),(46,vI x.rs.length),(45,.slice x.sA x.rs.length x.sc),(43,.bool false),(40,.bool false),(2,.bool false),(1,vP g1 0)]∧Mem w wS [.blk g8 t.cells 232,.blk g1 x.cells 48]) ?_ ?_
  ·
   refine Jb Z E ((Vs .n []) fun XF=>(Vp [0,1,2]) fun a Z E HS=>?_)
   rcases Z.tf 104 rfl with ⟨Ae,Z⟩|⟨Ae,Z⟩
   ·
    have hd104:=of_decide_eq_true Ae
    refine Vb Z E HS ((Vf 3 5∘Vp [5]∘Vf 10 0∘Vc 4 O1∘K4 6 1) fun a Z E HS=>?_)
    replace Z:=Z.sp 106 (.slice (some ⟨lX,lY,none⟩) x.ts.length x.tc) rfl (by rw [hq4];try rfl)
    refine Vb Z E HS ((Vy 7 (h:=by exact Yl.ix lX lY (i-1) 8 rfl rfl rfl)∘Vf 8 0∘Vy 9 (v:=vI ((x.ts.getD (i-1) Tk.zero).id)) (h:=by exact Yl.qj rfl rfl kr (fun _ h=>(by have:=(h.old gP).partAt sw (k:=(i-1)) (j:=0) (x:=(x.ts.getD (i-1) Tk.zero)) ((getD_at Tk.zero (k:=(i-1)) (by first|omega|(simp;omega)))) rfl;simpa using this)))∘Vc 11 O0∘Vp [12,13,14]) fun a Z E HS=>?_)
    rcases Z.tf 116 rfl with ⟨Af,Z⟩|⟨Af,Z⟩
    ·
     have Ah:=of_decide_eq_true Af
     refine Vb Z E HS ((Vp [15,16,17,18,19]∘Vd∘aF) fun a Z E=>?_)
     have Z:=Z.sp 121 (.bool (!fC x.aD i)) rfl (congrArg Value.bool (by rw [qui om (by rw [ht];omega)];rfl))
     exact ⟨Z.sub kr,E.pk [0,1]⟩
    have Ah:=of_decide_eq_false Af
    refine jd Z HS 15 rfl (v:= .agg x.cells) (Yl.qf rfl rfl dD rfl (fun _ h=>qb (h.blk (i:=1) rfl))) fun a Z=>?_
    refine jd Z HS 16 rfl (v:= .agg t.cells) (Yl.qf rfl rfl eU rfl (fun _ h=>qb (h.blk (i:=0) rfl))) fun a Z=>?_
    refine s_on Z 17 rfl (zC Z E [.agg x.cells,.agg t.cells] (.bool (dF x.aD t)) rfl rfl (qgg x t rQ hcp hf.s _) fun XG hbw E a Z=>?_)
    refine au (E.pk [0,1]) (fun HS=>?_)
    refine ap Z (fun _=>HS) [18,19] (bt 20 []) [(121,.bool (!(dF x.aD t)))] fun a Z=>?_
    refine qg kr ?_
    have Z:=Z.sp 121 (.bool (!fC x.aD i)) rfl (congrArg Value.bool (by rw [q04 (by rw [ht];omega),ht]))
    exact ⟨Z.sub kr,E.pk [0,1]⟩
   have hd104:=of_decide_eq_false Ae
   refine ap Z (fun _=>HS) [3,4,5,6,7,8,9,10,11,12,13,14] (bt 20 [15,16,17,18,19]) [(116,.bool false)] fun a Z=>?_
   refine jd Z HS 15 rfl (v:= .agg x.cells) (Yl.qf rfl rfl dD rfl (fun _ h=>qb (h.blk (i:=1) rfl))) fun a Z=>?_
   refine jd Z HS 16 rfl (v:= .agg t.cells) (Yl.qf rfl rfl eU rfl (fun _ h=>qb (h.blk (i:=0) rfl))) fun a Z=>?_
   refine s_on Z 17 rfl (zC Z E [.agg x.cells,.agg t.cells] (.bool (dF x.aD t)) rfl rfl (qgg x t rQ hcp hf.s _) fun XG hbw E a Z=>?_)
   refine au (E.pk [0,1]) (fun HS=>?_)
   refine ap Z (fun _=>HS) [18,19] (bt 20 []) [(121,.bool (!(dF x.aD t)))] fun a Z=>?_
   refine qg kr ?_
   have Z:=Z.sp 121 (.bool (!fC x.aD i)) rfl (congrArg Value.bool (by rw [q04 (by rw [ht];omega),ht]))
   exact ⟨Z.sub kr,E.pk [0,1]⟩
  clear Z E;rintro a nZ ⟨Z,E⟩
  refine Jb Z E (Ju (fun oH=>?_) fun oH=>?_)
  ·
   exact (JT∘JP∘Jp 1∘Jj∘JZ∘aH) fun E=>aM (NQ jH (by simpa using oH)).symm E.below
  refine (JF∘aG∘JR∘bn 1∘Jp 1∘aQ∘Jq) fun a Z E=>?_
  replace Z:=Z.sp 95 (.slice x.tA x.ts.length x.tc) rfl (by rw [hq4])
  exact ⟨_,om,i+1,by omega,hu3.succ (by simpa using oH),rfl,Z.sub kr,E.pk [1]⟩
 intro a Z E
 have hd98:=of_decide_eq_false Ip
 exact Jb Z E ((JF∘JX∘JG∘JP∘Jp 1∘Jj∘JZ∘aH) fun E=>aM (zdq hcf om hcl (fun i hi=>hu i om) (fun j hj=>hu3 j om)).symm E.below)
theorem zds {l:List Tk} {id:Int} {m:Nat} (hs:qE l) (hm:m<l.length) (h:(l.getD m Tk.zero).id<id):∀k,k<m+1→(l.getD k Tk.zero).id<id:=fun k hk=>by
 rcases Nat.lt_or_ge k m with h1|h1
 ·have:=hs k m h1 hm;omega
 ·obtain rfl:k=m:=by omega
  exact h
theorem zar {l:List Tk} {id:Int} {m:Nat} (hs:qE l) (hm:m<l.length) (h:id≤(l.getD m Tk.zero).id):∀k,m≤k→k<l.length→id≤(l.getD k Tk.zero).id:=fun k hk hl=>by
 rcases Nat.lt_or_ge m k with h1|h1
 ·have:=hs m k h1 hl;omega
 ·obtain rfl:k=m:=by omega
  exact h
theorem qsc {w w':World} {l:List Tk} {id:Int} {i:Nat} (hi:i=l.length) (h1:∀k,k<i→(l.getD k Tk.zero).id<id) (hb:Below w.heap.size w w'):Tw w l id (.returned (.tuple #[vI i,.bool false])) w':=by
 subst hi
 exact search_end h1 hb
theorem DU:SI Tryz.prog 283 3:=⟨by kernel_rfl,by kernel_rfl⟩
theorem FK (p:Int) (w:World):Calls Tryz.prog 271 #[vI p] w (Is w (.bool false)):=by
 refine (bZ Tryz.func271 6) ?_
 exact (JP∘Jp 1∘Jr∘Jp 3∘Jo (.bool false) (by simp)∘Jp 1∘bQ∘Jj∘JZ) uI
theorem NY (p q:Int) (w:World):Calls Tryz.prog 222 #[vI p,vI q] w (Is w (vI (jY p q))):=by
 refine (jw Tryz.func222 20) ?_
 refine (JP∘Jp 1∘Jr∘Jp 1∘JL (h:=by exact fun E=>FK _ _)) ?_
 rintro E _ w8 ⟨rfl,hbw⟩
 refine ⟨_,rfl,_,E.call hbw,?_⟩
 refine (Jp 1∘aT∘Jr∘Jp 1∘JL (h:=by exact fun E=>FK _ _)) ?_
 rintro E _ ru ⟨rfl,hbw⟩
 refine ⟨_,rfl,_,E.call hbw,?_⟩
 refine (Jp 1∘aT∘Jj∘JQ∘JP∘Jp 1∘Jj∘JF∘aG∘JQ∘JP∘Jp 1∘Jj∘JF∘aG∘JQ∘JP∘Jp 3∘aT∘Jj) (Ji (fun kL=>?_) fun kL=>?_)
 ·
  exact (JT∘JP∘Jp 1∘Jj∘JZ∘aH) fun E=>by exact ⟨by rw [show jY p q= -1 from if_pos om],E.below⟩
 refine (JF∘aG∘JQ∘JP∘Jp 3∘aT∘Jj) (Ji (fun mQ=>?_) fun mQ=>?_)
 ·
  exact (JT∘JP∘Jp 1∘Jj∘JZ∘aH) fun E=>by exact ⟨by rw [show jY p q=1 from (if_neg om).trans (if_pos om)],E.below⟩
 exact (JF∘aG∘JP∘Jp 1∘Jj∘JZ∘aH) fun E=>by exact ⟨by rw [show jY p q=0 from (if_neg om).trans (if_neg om)],E.below⟩
theorem FL (p:Nat) (w:World):Calls Tryz.prog 305 #[vQ p] w (Is w (.bool false)):=by
 refine (bZ Tryz.func305 6) ?_
 exact (JP∘Jp 1∘Jr∘Jp 3∘Jo (.bool false) (by simp)∘Jp 1∘bQ∘Jj∘JZ) uI
theorem NZ (p q:Nat) (w:World):Calls Tryz.prog 272 #[vQ p,vQ q] w (Is w (vI (jY (p:Int) (q:Int)))):=by
 refine (jw Tryz.func272 20) ?_
 refine (JP∘Jp 1∘Jr∘Jp 1∘JL (h:=by exact fun E=>FL _ _)) ?_
 rintro E _ w8 ⟨rfl,hbw⟩
 refine ⟨_,rfl,_,E.call hbw,?_⟩
 refine (Jp 1∘aT∘Jr∘Jp 1∘JL (h:=by exact fun E=>FL _ _)) ?_
 rintro E _ ru ⟨rfl,hbw⟩
 refine ⟨_,rfl,_,E.call hbw,?_⟩
 refine (Jp 1∘aT∘Jj∘JQ∘JP∘Jp 1∘Jj∘JF∘aG∘JQ∘JP∘Jp 1∘Jj∘JF∘aG∘JQ∘JP∘Jp 3∘aT∘Jj) (Ji (fun kL=>?_) fun kL=>?_)
 ·
  exact (JT∘JP∘Jp 1∘Jj∘JZ∘aH) fun E=>by exact ⟨by rw [show jY (p:Int) (q:Int)= -1 from if_pos om],E.below⟩
 refine (JF∘aG∘JQ∘JP∘Jp 3∘aT∘Jj) (Ji (fun mQ=>?_) fun mQ=>?_)
 ·
  exact (JT∘JP∘Jp 1∘Jj∘JZ∘aH) fun E=>by exact ⟨by rw [show jY (p:Int) (q:Int)=1 from (if_neg om).trans (if_pos om)],E.below⟩
 exact (JF∘aG∘JP∘Jp 1∘Jj∘JZ∘aH) fun E=>by exact ⟨by rw [show jY (p:Int) (q:Int)=0 from (if_neg om).trans (if_neg om)],E.below⟩
theorem qpr (t:Tk) (id:Int) (w:World):Calls Tryz.prog 221 #[.agg t.cells,vI id] w (Is w (vI (jY t.id id))):=by
 refine (jw Tryz.func221 9) ?_
 refine (JP∘JE) fun w2 g2=>(Jp 1∘Jr∘Jg 0 O0∘Jp 1∘JL (h:=by exact fun E=>NY t.id id _)) ?_
 rintro E _ w8 ⟨rfl,hbw⟩
 refine ⟨_,rfl,_,E.call hbw,?_⟩
 exact (Jp 1∘bQ∘Jj∘JZ) uI
theorem qw7 (A:Option Addr) (c:Nat) (l:List Tk) (id:Int) (hs:qE l) (w:World) (hr:Rd w w.heap.size 8 A l.length (l.flatMap lW)) (hn:l.length≤1000000):
    Calls Tryz.prog 220 #[.slice A l.length c,vI id,.func (.func 221) #[] #[]] w (Tw w l id):=by
 refine (Hg Tryz.func220 49) ?_
 refine (JP∘Jp 2∘Jr∘Jp 1∘Jl∘Jp 1∘aT∘Jr∘Jp 3∘Jj∘JQ∘JB) fun a Z E=>?_
 refine qc (fun mS aS wS=>∃(i:Nat) (j:Nat),(i≤j)∧(j≤l.length)∧(∀k,k<i→(l.getD k Tk.zero).id<id)∧(∀k,j≤k→k<l.length→id≤(l.getD k Tk.zero).id)∧mS=j-i∧Fr aS 49 [] [(10,vI j),(9,vI i),(8,vI l.length),(7,.bool false),(6,vI 0),(0,.slice A l.length c),(1,vI id),(2,.func (.func 221) #[] #[])]∧Mem w wS []) (m:=l.length-0) ⟨0,l.length,Nat.zero_le _,Nat.le_refl _,fun k h=>by omega,fun k h1 h2=>by omega,rfl,Z.sub kr,E.pk []⟩ ?_
 clear Z E;rintro mS a w_ ⟨i,j,hij,hj,h1,h2,rfl,Z,E⟩
 refine Jb Z E ((JQ∘JP∘Jp 3∘aT∘Jj) (Ju (fun jh=>?_) fun jh=>?_))
 ·
  intro a Z E
  have iQ:=of_decide_eq_true jh
  have hmid:i≤((i+j)/2)∧((i+j)/2)<j:=by omega
  refine Jb Z E ((JT∘aG∘JB∘JP∘Jp 2∘Ja∘Jw .u64∘Jp 1∘Jo (vQ ((i+j)/2:Nat)) (by exact Dn .u64 (i+j) (j:=1) (q:=2) rfl rfl)∘Jw .i64∘Jp 1∘aF∘Jr∘Jp 3) ?_)
  repeat (first|clear Z|clear E)
  intro a Z E
  obtain ⟨gA,oA,rfl,_⟩:=hr.qd (Nat.lt_of_le_of_lt (Nat.zero_le _) (show (i+j)/2<l.length from by omega)) de
  refine Jb Z E ((Jy (h:=by exact Yl.ix gA oA ((i+j)/2) 8 rfl rfl rfl)∘Jy (v:= .agg ((l.getD ((i+j)/2) Tk.zero).cells)) (h:=by exact Yl.qf rfl rfl eU rfl (fun _ h=>(h.old hr).qm sw ((getD_at Tk.zero om))))∘Jp 1) fun a Z E=>?_)
  refine fo Z 6 rfl rfl ?_
  refine rA Z (f:=221) (vs:=[.agg ((l.getD ((i+j)/2) Tk.zero).cells),vI id]) (fst:=[]) (caps:=[]) rfl rfl rfl kr rfl de (qpr (l.getD ((i+j)/2) Tk.zero) id _) ?_
  rintro _ w30 ⟨rfl,hbw⟩
  refine ⟨_,rfl,?_⟩
  replace E:=E.call hbw
  clear Z;intro a Z
  refine Jb Z E ((Jp 1∘Jo (.bool (decide ((l.getD ((i+j)/2) Tk.zero).id<id))) (by exact congrArg Value.bool q05)∘aF∘Jj) (Ju (fun kW=>?_) fun kW=>?_))
  ·
   intro a Z E
   have hd31:=of_decide_eq_true kW
   have hlt:(l.getD ((i+j)/2) Tk.zero).id<id:=by simpa using kW
   refine Jb Z E ((JT∘JR∘Jp 1∘bn 1∘Jp 1∘aT∘Jq) fun a Z E=>?_)
   exact ⟨_,om,(((i+j)/2)+1),j,by omega,hj,zds hs om hlt,h2,rfl,Z.sub kr,E.pk []⟩
  intro a Z E
  have hd31:=of_decide_eq_false kW
  have hge:¬(l.getD ((i+j)/2) Tk.zero).id<id:=by simpa using kW
  refine Jb Z E ((JF∘JR∘Jp 2∘aQ∘Jq) fun a Z E=>?_)
  exact ⟨_,om,i,((i+j)/2),by omega,by omega,h1,zar hs om om,rfl,Z.sub kr,E.pk []⟩
 intro a Z E
 have iQ:=of_decide_eq_false jh
 revert E;revert a;repeat (first|clear Z|clear E)
 intro a Z E
 obtain rfl:i=j:=by omega
 refine Jb Z E ((JF∘JX∘JG∘JP∘Jp 5) (Ji (fun hd39=>?_) fun hd39=>?_))
 ·
  refine (Jp 3) ?_
  repeat (first|clear Z|clear E)
  intro a Z E
  obtain ⟨gA,oA,rfl,_⟩:=hr.qd (Nat.lt_of_le_of_lt (Nat.zero_le _) (show i<l.length from by omega)) de
  refine Jb Z E ((Jy (h:=by exact Yl.ix gA oA i 8 rfl rfl rfl)∘Jy (v:= .agg ((l.getD i Tk.zero).cells)) (h:=by exact Yl.qf rfl rfl eU rfl (fun _ h=>(h.old hr).qm sw ((getD_at Tk.zero om))))∘Jp 1) fun a Z E=>?_)
  refine fo Z 11 rfl rfl ?_
  refine rA Z (f:=221) (vs:=[.agg ((l.getD i Tk.zero).cells),vI id]) (fst:=[]) (caps:=[]) rfl rfl rfl kr rfl de (qpr (l.getD i Tk.zero) id _) ?_
  rintro _ K7 ⟨rfl,hbw⟩
  refine ⟨_,rfl,?_⟩
  replace E:=E.call hbw
  clear Z;intro a Z
  exact Jb Z E ((Jp 1∘Jo (.bool (decide ((l.getD i Tk.zero).id=id))) (by exact congrArg Value.bool q06)∘Jp 3∘Jj∘JZ∘bW) fun E=>q08 hs om h1 h2 E.below)
 exact (Jv 11 [(7,.bool false),(6,vI i)]∘Jj∘JZ∘bW) fun E=>qsc om h1 E.below
theorem q1f (x:dK) (gm:Nat) (id:Int) (hs:qE x.ts) (w:World) (hm:w.heap[gm]?=some (.cells #[vI x.aB,vQ x.ak,.slice x.gA x.gs.length x.gc,.slice x.lA x.cl.length x.lc,.slice x.uA x.cu.length x.uc,.slice x.tA x.ts.length x.tc,.slice x.sA x.rs.length x.sc,.bool true] 273 (0,0))) (ht:Rd w w.heap.size 8 x.tA x.ts.length (x.ts.flatMap lW)) (hn:x.ts.length≤1000000):
    Calls Tryz.prog 161 #[vP gm 0,vI id] w (Is w (vI (fidx x.ts id))):=by
 refine (jw Tryz.func161 20) ?_
 refine (JP∘Jp 1∘Jr∘Jp 1∘Jn∘Jf 0∘Jf 5∘Jy (v:= .slice x.tA x.ts.length x.tc) (h:=by exact Yl.qj rfl rfl kr (fun _ h=>h.rD hm rfl))∘Jp 1∘JL (h:=by exact fun E=>qw7 x.tA x.tc x.ts id hs _ (E.old ht) hn)) ?_
 rintro E _ Fj ⟨⟨i,b,rfl,hil,hib⟩,hbw⟩
 refine ⟨_,rfl,_,E.call hbw,?_⟩
 refine (Jp 1∘Jx∘Jx∘Jp 2∘Jj∘JQ∘JP∘Jp 2∘aT∘Jj) (Ju (fun fQ=>?_) fun fQ=>?_)
 ·
  exact (JT∘JP∘Jp 1∘Jj∘JZ∘aH) fun E=>by exact ⟨by rw [←hib,if_neg (by simpa using fQ)],E.below⟩
 exact (JF∘aG∘JP∘Jp 2∘aQ∘Jj∘JZ∘aH) fun E=>by exact ⟨by rw [←hib,if_pos (by simpa using fQ)],E.below⟩
def XH (x:dK) (gm c g:Nat):Prop:=∀w:World,cB w x→w.heap[gm]?=some (.cells #[vI x.aB,vQ x.ak,.slice x.gA x.gs.length x.gc,.slice x.lA x.cl.length x.lc,.slice x.uA x.cu.length x.uc,.slice x.tA x.ts.length x.tc,.slice x.sA x.rs.length x.sc,.bool true] 273 (0,0))→Calls Tryz.prog 162 #[vP gm 0,vI g,vI c] w (Is w (.tuple #[.agg (dx iU (dB x.aD g c)).cells,.bool (!(dB x.aD g c).isEmpty)]))
theorem qF {x:dK} {i:Nat} (h:fC x.aD i=true):1≤(x.ts.getD i Tk.zero).id∧(x.ts.getD i Tk.zero).id≤65535:=by
 have h1:=(Tt h).2
 unfold dF at h1
 rw [Bool.and_eq_true,decide_eq_true_eq] at h1
 exact ⟨h1.1.1,h1.1.2.1⟩
theorem XI {p:Nat→Prop} {k:Nat} (h:∀i,i<k→p i) (hk:p k):∀i,i<k+1→p i:=fun i hi=>by
 rcases Nat.lt_or_ge i k with h1|h1
 ·exact h i h1
 ·obtain rfl:i=k:=by omega
  exact hk
theorem qps (m n:Mb) (A A2:Option Addr) (c c2:Nat) (w:World) (hr:Rd w w.heap.size 1 A 3 (m.nums.map aR)) (hr2:Rd w w.heap.size 1 A2 3 (n.nums.map aR)):
    Calls Tryz.prog 224 #[.slice A 3 c,.slice A2 3 c2] w (zS w m n):=by
 refine (jw Tryz.func224 36) ?_
 refine (JP∘Jp 1∘Jj∘JQ∘JP∘Jp 1∘Jl∘Jp 1∘Jj∘JB) fun a Z E=>?_
 refine qc (fun mS aS wS=>∃(k:Nat),(k≤3)∧(∀i,i<k→m.nums.getD i 0=n.nums.getD i 0)∧mS=3-k∧Fr aS 36 [] [(11,vI k),(10,vI 3),(9,.slice A 3 c),(4,vI 0),(0,.slice A 3 c),(1,.slice A2 3 c2)]∧Mem w wS []) (m:=3-0) ⟨0,by decide,fun i h=>by omega,rfl,Z.sub kr,E.pk []⟩ ?_
 clear Z E;rintro mS a w_ ⟨k,hk,he,rfl,Z,E⟩
 refine Jb Z E ((JP∘Jp 1∘Jj∘JQ) (Ju (fun dR=>?_) fun dR=>?_))
 ·
  intro a Z E
  have iR:=of_decide_eq_true dR
  have Nt:k<3:=by omega
  refine Jb Z E ((JT∘aG∘JQ∘JB∘JP∘Jp 1) ?_)
  repeat (first|clear Z|clear E)
  intro a Z E
  obtain ⟨gA,oA,rfl,_⟩:=hr.qd (Nat.lt_of_le_of_lt (Nat.zero_le _) (show k<3 from by omega)) de
  refine Jb Z E ((Jy (h:=by exact Yl.ix gA oA k 1 rfl rfl rfl)∘Jy (h:=by exact Yl.o1 hr k 0 (show k<3 by omega) rfl rfl)∘Jp 2∘Jj∘JQ∘JP∘Jp 2∘Jl∘Jp 1∘Jo (.bool false) (by exact congrArg Value.bool (decide_eq_false om))∘bQ∘Jj∘JF∘aG∘JP∘Jp 2) ?_)
  repeat (first|clear Z|clear E)
  intro a Z E
  obtain ⟨CW,Iq,rfl,_⟩:=hr2.qd (Nat.lt_of_le_of_lt (Nat.zero_le _) (show k<3 from by omega)) de
  refine Jb Z E ((Jy (h:=by exact Yl.ix CW Iq k 1 rfl rfl rfl)∘Jy (h:=by exact Yl.o1 hr2 k 0 (show k<3 by omega) rfl rfl)∘Jp 1∘eZ∘Jr∘Jp 2∘JL (h:=by exact fun E=>NZ (m.nums.getD k 0) (n.nums.getD k 0) _)) ?_)
  rintro E _ vJ ⟨rfl,hbw⟩
  refine ⟨_,rfl,_,E.call hbw,?_⟩
  refine (Jp 1∘bQ∘Jr∘Jp 2∘Jo (.bool (decide (((m.nums.getD k 0):Int)≠((n.nums.getD k 0):Int)))) (by exact congrArg Value.bool zam)∘aQ∘Jj) (Ji (fun hd28=>?_) fun hd28=>?_)
  ·
   exact (JT∘JP∘Jp 2∘aQ∘Jj∘JZ∘aH) fun E=>q6d Nt he om E.below
  refine (JF∘aG∘JR∘bn 1∘Jp 1∘aQ∘Jq) fun a Z E=>?_
  exact ⟨_,om,k+1,by omega,XI he om,rfl,Z.sub kr,E.pk []⟩
 intro a Z E
 have iR:=of_decide_eq_false dR
 exact Jb Z E ((JF∘JX∘JG∘JQ∘JP∘Jp 1∘Jl∘Jp 1∘Jl∘Jv 1 [(35,.bool false)]∘eZ∘Jj∘JF∘aG∘JP∘Jp 1∘Jj∘JZ∘aH) fun E=>q6e (fun i hi=>he i om) E.below)
theorem zdt (m:Mb) (w:World):Calls Tryz.prog 163 #[.agg m.cells] w (Is w (vQ (m.v:Int))):=by
 refine (bZ Tryz.func163 5) ?_
 exact (JP∘JE) fun w1 g1=>(Jp 1∘Jr∘Jy (v:=vP g1 0) (h:=by exact Yl.MQ (ad:=⟨g1,0,none⟩) (m:=3) (y:=0) (sz:=1) rfl rfl rfl kr de)∘Jc O0∘Jp 1∘aT∘Jj∘JZ) uI
theorem zas (W w:World) (gs gb:Nat) (sm:Bool) (m n:Mb) (fs:List Fact) (E:Mem W w (.blk gs #[.bool sm] 4:: .blk gb n.cells 283::fs)):
    Calls Tryz.prog 223 ([.agg m.cells,vP gs 0,vP gb 0]:List Value).toArray w fun r w'=>r= .returned (.tuple #[])∧Mem W w' (.blk gs #[.bool true] 4:: .blk gb (if m.lt n then m else n).cells 283::fs):=by
 refine xO Tryz.func223 [.agg m.cells,vP gs 0,vP gb 0] [(0,.agg m.cells),(1,vP gs 0),(2,vP gb 0)] fun a Z=>?_
 refine Jb Z E ((JP∘JE) fun w3 g3=>(aQ∘Jr∘JW gQ bg) fun ani=>(aQ∘Jj) fun a Z E=>?_)
 refine wp_seq ?_
 refine Jb Z E ((Vs .n []) fun wd2=>(Vy 0 (v:=vS g3 3 3) (h:=by exact Yl.qwe (n:=3) (sz:=1) rfl rfl kr)∘Vy 1 (v:=vS gb 3 3) (h:=by exact Yl.qwe (n:=3) (sz:=1) rfl rfl kr)) fun a Z E HS=>?_)
 refine s_on Z 2 rfl ?_
 refine rz Z [vS g3 3 3,vS gb 3 3] rfl rfl (qps m n (some ⟨g3,0,none⟩) (some ⟨gb,0,none⟩) 3 3 _ (E.aN (i:=0) (n:=3) (size:=1) rfl rfl) (E.aN (i:=2) (n:=3) (size:=1) rfl rfl)) ?_
 rintro _ w6 ⟨⟨cc,rfl,hcc⟩,hbw⟩
 refine ⟨_,rfl,?_⟩
 replace E:=E.call hbw
 clear Z;intro a Z
 refine au (E.pt 3 [0,1,2]) (fun HS=>?_)
 refine Vb Z E HS ((Vq [3] [(7,.bool (decide ((cc:Int)<(0:Int))))]∘Vo (.bool (m.lt n)) (by exact congrArg Value.bool hcc)∘Vd∘bQ) (Ju (fun XJ=>?_) fun XJ=>?_))
 ·
  refine (JT∘JR∘Jy (v:= .agg m.cells) (h:=by exact Yl.qf rfl rfl DU rfl (fun _ h=>qb (h.blk (i:=0) rfl)))∘JV DU gH (h1:=by exact Tx m)) fun XK=>(wK∘Jq) fun a Z E=>?_
  refine nA rfl Z ⟨rfl,?_⟩
  rw [if_pos XJ]
  exact E.pt 3 [1,2]
 refine (JF∘JS) fun a Z E=>?_
 refine nA rfl Z ⟨rfl,?_⟩
 rw [if_neg (by rw [XJ];decide)]
 exact E.pt 3 [1,2]
theorem q8z (W w:World) (gs gb:Nat) (sm:Bool) (m:Mb) (q:List Mb) (fs:List Fact) (E:Mem W w (.blk gs #[.bool sm] 4:: .blk gb (dx iU q).cells 283::fs)):
  Calls Tryz.prog 223 ([.agg m.cells,vP gs 0,vP gb 0]:List Value).toArray w fun r w'=>r= .returned (.tuple #[])∧Mem W w' (.blk gs #[.bool (!(q++[m]).isEmpty)] 4:: .blk gb (dx iU (q++[m])).cells 283::fs):=by
 have h1:=zas W w gs gb sm m _ fs E
 rw [←qlq] at h1
 rw [show (!(q++[m]).isEmpty)=true from by simp]
 exact h1
theorem qw8 (x:dK) (hok:x.aD.Ok) (hf:aX x) (hsh:ShAt x) (gm c:Nat) (hc:(c:Int)<x.aB) (g:Nat) (hg:g<x.rs.length) (ih:∀h,g<h→h<x.rs.length→XH x gm c h):XH x gm c g:=by
 intro w hx hm
 have hfs:=hf.s;have hft:=hf.t;have hfg:=hf.g;have hrl:=hsh.rs;have hto:=hok.ts
 obtain ⟨hc1,hc2,_,_⟩:=yS hsh.cfg
 refine (Hg Tryz.func162 102) ?_
 refine (JP∘JA #[vQ 0,vQ 0,vQ 0]) fun w6 g6=>(Jp 1∘Jr∘Jy (v:= .agg #[vQ 18446744073709551615,vQ 18446744073709551615,vQ 18446744073709551615]) (h:=by exact Yl.Xl (n:=3) (sz:=1) (vs:=[(0,vQ 18446744073709551615),(1,vQ 18446744073709551615),(2,vQ 18446744073709551615)]) rfl rfl kr kr)∘JA #[vQ 0,vQ 0,vQ 0]) fun w8 g8=>(JA #[.bool false]) fun w9 g9=>(JV DU gQ) fun ank=>(JW bg bg) fun DC=>(Jr∘Jy (h:=by exact Yl.makeFunc (fst:=[]) (caps:=[vP g9 0,vP g8 0]) rfl rfl rfl)∘Jp 1∘aQ∘Jq) fun a Z E=>?_
 replace E:=E.wT (i:=1) (ds:=(dx iU []).cells) rfl rfl
 refine Jb Z E ((JG∘JQ∘JP∘Jp 1∘Jn∘Jf 0∘Jf 5∘Jy (v:= .slice x.tA x.ts.length x.tc) (h:=by exact Yl.qj rfl rfl kr (fun _ h=>h.rD hm rfl))∘Jl∘Jp 1∘Jj∘JB) fun a Z E=>?_)
 refine qc (fun mS aS wS=>∃(i:Nat) (q:List Mb),(i≤x.ts.length)∧(q=(x.ts.take i).filterMap (su · g c))∧mS=x.ts.length-i∧Fr aS 102 [] [(24,vI i),(23,vI x.ts.length),(22,.slice x.tA x.ts.length x.tc),(10,.func (.func 223) #[] #[vP g9 0,vP g8 0]),(9,vP g9 0),(8,vP g8 0),(7,.bool false),(6,vP g6 0),(0,vP gm 0),(1,vI g),(2,vI c)]∧Mem w wS [.blk g9 #[.bool (!q.isEmpty)] 4,.blk g8 ((dx iU q).cells) 283,.blk g6 #[vQ 0,vQ 0,vQ 0] 283]) (m:=x.ts.length-0) ⟨0,[],Nat.zero_le _,rfl,rfl,Z.sub kr,E.pk [0,1,2]⟩ ?_
 clear Z E;rintro mS a w_ ⟨i,q,hi,hq,rfl,Z,E⟩
 refine Jb Z E ((JP∘Jp 1∘Jj∘JQ) (Ju (fun je=>?_) fun je=>?_))
 ·
  intro a Z E
  have hd25:=of_decide_eq_true je
  have DV:i<x.ts.length:=by omega
  obtain ⟨t,ht⟩:∃z,(x.ts.getD i Tk.zero)=z:=⟨_,rfl⟩
  have vK:=qF (hsh.tk i DV)
  rw [ht] at vK
  refine Jb Z E ((JT∘aG∘JQ∘JB∘JP) fun a Z E=>?_)
  obtain ⟨dU,dV,hq1,_⟩:=Rd.qd hx.t (Nat.lt_of_le_of_lt (Nat.zero_le _) (show i<x.ts.length from by omega)) de
  have aZ:=hx.t;rw [hq1] at aZ
  replace Z:=Z.sp 22 (.slice (some ⟨dU,dV,none⟩) x.ts.length x.tc) rfl (by rw [hq1];try rfl)
  refine Jb Z E ((Jy (h:=by exact Yl.ix dU dV i 8 rfl rfl rfl)∘Jy (v:= .agg ((x.ts.getD i Tk.zero).cells)) (h:=by exact Yl.qf rfl rfl eU rfl (fun _ h=>(h.old aZ).qm sw ((getD_at Tk.zero DV))))∘Jo (.agg t.cells) (by rw [ht])∘JA #[vI 0,vI 0,vI 0,vI 0,vQ 0,.bool false,vQ 0,vW 0]) fun Ld g12=>(JV eU bg (h1:=by exact Lm t)) fun zN=>(aT∘Jj) fun a Z E=>?_)
  refine zn (fun aS wS=>Fr aS 102 [] [(41,.bool (t.here g c)),(12,vP g12 0),(22,.slice (some ⟨dU,dV,none⟩) x.ts.length x.tc),(25,.bool true),(24,vI i),(23,vI x.ts.length),(10,.func (.func 223) #[] #[vP g9 0,vP g8 0]),(9,vP g9 0),(8,vP g8 0),(7,.bool false),(6,vP g6 0),(0,vP gm 0),(1,vI g),(2,vI c)]∧Mem w wS [.blk g12 t.cells 232,.blk g9 #[.bool (!q.isEmpty)] 4,.blk g8 ((dx iU q).cells) 283,.blk g6 #[vQ 0,vQ 0,vQ 0] 283]) ?_ ?_
  ·
   refine zg ?_
   refine Jb Z E ((Jg 5 O0∘Jp 1) (Ju (fun jI=>?_) fun jI=>?_))
   ·
    refine (Jg 1 O0∘Jp 4) (Je (fun Ir=>?_) fun Ir=>?_)
    ·
     refine (Jg 3 O0∘Jp 3∘aF∘Jq) fun a Z E=>?_
     have Z:=Z.sp 41 (.bool (t.here g c)) rfl (congrArg Value.bool (by unfold Tk.here;rw [jI,decide_eq_true om,Bool.true_and,Bool.true_and,Bool.eq_iff_iff,beq_iff_eq,decide_eq_true_eq]))
     exact ⟨Z.sub kr,E.pk [0,1,2,3]⟩
    refine (Jp 5∘aF∘Jq) fun a Z E=>?_
    have Z:=Z.sp 41 (.bool (t.here g c)) rfl (congrArg Value.bool (by unfold Tk.here;rw [jI,decide_eq_false om];rfl))
    exact ⟨Z.sub kr,E.pk [0,1,2,3]⟩
   refine (Jv 11 [(41,.bool false)]∘aT∘Jq) fun a Z E=>?_
   have Z:=Z.sp 41 (.bool (t.here g c)) rfl (congrArg Value.bool (by unfold Tk.here;rw [jI];rfl))
   exact ⟨Z.sub kr,E.pk [0,1,2,3]⟩
  clear Z E;rintro a w6 ⟨Z,E⟩
  refine Jb Z E (Ju (fun Iu=>?_) fun Iu=>?_)
  ·
   intro a Z E
   have hq2:q++[(⟨t.v,0,t.id.toNat⟩:Mb)]=(x.ts.take (i+1)).filterMap (su · g c):=by rw [NS Tk.zero DV,←hq,ht,su,if_pos Iu];rfl
   refine Jb Z E ((JT∘JR∘Jp 1∘Jg 6 O0∘Jg 0 O0∘Jv 1 [(47,vQ (IntKind.u64.wrap t.id))]∘Jo (vQ t.id.toNat) (by exact Dm om om)∘Jy (v:= .agg #[vQ t.v,vQ 0,vQ t.id.toNat]) (h:=by exact Yl.Xl (n:=3) (sz:=1) (vs:=[(0,vQ t.v),(1,vQ 0),(2,vQ t.id.toNat)]) rfl rfl kr kr)) fun a Z E=>?_)
   refine fo Z 7 rfl rfl ?_
   refine rA Z (f:=223) (vs:=[.agg #[vQ t.v,vQ 0,vQ t.id.toNat]]) (fst:=[]) (caps:=[vP g9 0,vP g8 0]) rfl rfl rfl kr rfl de (q8z w _ g9 g8 _ (⟨t.v,0,t.id.toNat⟩:Mb) q _ (E.pk [1,2,0,3])) ?_
   rintro _ TB ⟨rfl,eX⟩
   refine ⟨_,rfl,?_⟩
   replace E:=eX
   clear Z;intro a Z
   refine Jb Z E ((lH∘Jj∘JR∘bn 1∘Jp 1∘aQ∘Jq) fun a Z E=>?_)
   replace Z:=Z.sp 22 (.slice x.tA x.ts.length x.tc) rfl (by rw [hq1])
   exact ⟨_,om,i+1,(q++[(⟨t.v,0,t.id.toNat⟩:Mb)]),by omega,hq2,rfl,Z.sub kr,E.pk [0,1,3]⟩
  intro a Z E
  have hq2:q=(x.ts.take (i+1)).filterMap (su · g c):=by rw [NS Tk.zero DV,←hq,ht,su,if_neg (by rw [Iu];decide)];simp
  refine Jb Z E ((JF∘aG∘JR∘bn 1∘Jp 1∘aQ∘Jq) fun a Z E=>?_)
  replace Z:=Z.sp 22 (.slice x.tA x.ts.length x.tc) rfl (by rw [hq1])
  exact ⟨_,om,i+1,q,by omega,hq2,rfl,Z.sub kr,E.pk [1,2,3]⟩
 intro a Z E
 have hd25:=of_decide_eq_false je
 rw [List.take_of_length_le (by omega:x.ts.length≤i)] at hq
 refine Jb Z E ((JF∘JX∘JG∘JQ∘JP∘Jp 1∘bn 1∘Jp 1∘aT∘Jj∘JB) fun a Z E=>?_)
 refine qc (fun mS aS wS=>∃(u:Nat) (q:List Mb),(g+1≤u)∧(u≤x.rs.length)∧(q=x.ts.filterMap (su · g c)++((((List.range x.rs.length).drop (g+1)).take (u- (g+1))).filterMap (kT x.aD c (fun u=>dB x.aD u c) g)))∧mS=x.rs.length-u∧Fr aS 102 [] [(13,vI u),(25,.bool false),(24,vI i),(23,vI x.ts.length),(22,.slice x.tA x.ts.length x.tc),(10,.func (.func 223) #[] #[vP g9 0,vP g8 0]),(9,vP g9 0),(8,vP g8 0),(7,.bool false),(6,vP g6 0),(0,vP gm 0),(1,vI g),(2,vI c)]∧Mem w wS [.blk g9 #[.bool (!q.isEmpty)] 4,.blk g8 ((dx iU q).cells) 283,.blk g6 #[vQ 0,vQ 0,vQ 0] 283]) (m:=x.rs.length- (g+1)) ⟨g+1,q,Nat.le_refl _,by omega,by rw [hq];simp,rfl,Z.sub kr,E.pk [0,1,2]⟩ ?_
 clear Z E;rintro mS a w_ ⟨u,q,hgh,hh,hq,rfl,Z,E⟩
 refine Jb Z E ((JQ∘JP∘Jp 2∘Jn∘Jf 0∘Jf 6∘Jy (v:= .slice x.sA x.rs.length x.sc) (h:=by exact Yl.qj rfl rfl kr (fun _ h=>h.rD hm rfl))∘Jl∘Jp 1∘aF∘Jj) (Ju (fun Iw=>?_) fun Iw=>?_))
 ·
  intro a Z E
  have Iy:=of_decide_eq_true Iw
  have lZ:u<x.rs.length:=by omega
  have mZ:=Xn (f:=kT x.aD c (fun u=>dB x.aD u c) g) hgh lZ
  refine Jb Z E ((JT∘aG∘JQ∘JB∘JQ∘JP∘Jp 1∘Jn∘Jf 0∘Jf 0∘Jf 2∘Jy (v:= .slice x.gA x.gs.length x.gc) (h:=by exact Yl.qj rfl rfl kr (fun _ h=>h.rD hm rfl))∘Jp 1) fun a Z E=>?_)
  obtain ⟨mW,mX,hq2,_⟩:=Rd.qd hx.g (Nat.lt_of_le_of_lt (Nat.zero_le _) (show u<x.gs.length from by omega)) de
  have iq:=hx.g;rw [hq2] at iq
  replace Z:=Z.sp 68 (.slice (some ⟨mW,mX,none⟩) x.gs.length x.gc) rfl (by rw [hq2];try rfl)
  refine Jb Z E ((Jy (h:=by exact Yl.ix mW mX u 2 rfl rfl rfl)∘Jf 0∘Jy (v:=vI ((x.gs.getD u Gr.zero).parent)) (h:=by exact Yl.qj rfl rfl kr (fun _ h=>(by have:=(h.old iq).partAt zx (k:=u) (j:=0) (x:=(x.gs.getD u Gr.zero)) ((getD_at Gr.zero om)) rfl;simpa using this)))∘Jp 2∘eZ∘Jj) (Ju (fun Iz=>?_) fun Iz=>?_))
  ·
   intro a Z E
   have XL:=bne_iff_ne.1 Iz
   rw [qpm om] at mZ
   refine Jb Z E ((JT∘JX∘JG∘JR∘Jp 1∘bn 1∘Jp 1∘aT∘Jq) fun a Z E=>?_)
   exact ⟨_,om,u+1,q,by omega,by omega,by rw [mZ,hq];simp,rfl,Z.sub kr,E.pk [0,1,2]⟩
  intro a Z E
  have XL:=bne_eq_false_iff_eq.1 Iz
  refine Jb Z E ((JF∘aG∘JP∘Jp 3∘JL (h:=by exact fun E=>ih u om om _ (hx.old E) (E.zH hm))) ?_)
  rintro E _ XM ⟨rfl,hbw⟩
  refine ⟨_,rfl,_,E.call hbw,?_⟩
  refine (Jp 1∘Jx∘Jx∘JA #[vQ 0,vQ 0,vQ 0]) fun Fj g14=>(JV DU bg (h1:=by exact Tx (dx iU (dB x.aD u c)))) fun N7=>(Jp 1∘aF∘Jr∘Jp 1∘Jj) (Ju (fun jJ=>?_) fun jJ=>?_)
  ·
   intro a Z E
   obtain ⟨y,hy⟩:∃z,x.rs.getD u Rw.zero=z:=⟨_,rfl⟩
   have jG:Rd w w.heap.size 3 y.A y.l.length (y.l.flatMap jy):=by rw [←hy];exact hx.row lZ
   have hyl:(y.l.length:Int)=x.aB:=by rw [←hy];exact (FD lZ (hsh.row u lZ)).1
   have DT:∀z∈y.l,z.Ok:=by rw [←hy,←kC lZ];exact hok.sp _ (qi [] (by rw [rO];exact lZ))
   have hzv:=(DT _ (qi Sp.zero (show c<y.l.length by omega))).v
   rw [qun lZ om (by simpa using jJ),hy] at mZ
   refine Jb Z E ((JT∘JR∘Jp 2∘Jn∘Jf 0∘Jf 6∘Jy (v:= .slice x.sA x.rs.length x.sc) (h:=by exact Yl.qj rfl rfl kr (fun _ h=>h.rD hm rfl))∘Jp 1) fun a Z E=>?_)
   obtain ⟨lK,lM,hq3,_⟩:=Rd.qd hx.s (Nat.lt_of_le_of_lt (Nat.zero_le _) (show u<x.rs.length from by omega)) de
   have gB:=hx.s;rw [hq3] at gB
   replace Z:=Z.sp 88 (.slice (some ⟨lK,lM,none⟩) x.rs.length x.sc) rfl (by rw [hq3];try rfl)
   refine Jb Z E ((Jy (h:=by exact Yl.ix lK lM u 1 rfl rfl rfl)∘Jy (v:= .slice ((x.rs.getD u Rw.zero).A) ((x.rs.getD u Rw.zero).l.length) ((x.rs.getD u Rw.zero).c)) (h:=by exact Yl.o1 gB u Rw.zero om rfl rfl)∘Jo (.slice y.A y.l.length y.c) (by rw [hy])∘Jp 1) fun a Z E=>?_)
   obtain ⟨lX,lY,hq4,_⟩:=Rd.qd jG (Nat.lt_of_le_of_lt (Nat.zero_le _) (show c<y.l.length from by omega)) de
   have gP:=jG;rw [hq4] at gP
   replace Z:=Z.sp 91 (.slice (some ⟨lX,lY,none⟩) y.l.length y.c) rfl (by rw [hq4];try rfl)
   refine Jb Z E ((Jy (h:=by exact Yl.ix lX lY c 3 rfl rfl rfl)∘Jf 0∘Jy (v:=vQ ((y.l.getD c Sp.zero).v)) (h:=by exact Yl.qj rfl rfl kr (fun _ h=>(by have:=(h.old gP).partAt vF (k:=c) (j:=0) (x:=(y.l.getD c Sp.zero)) ((getD_at Sp.zero om)) rfl;simpa using this)))∘Jp 1∘Jw .u64∘Jy (v:= .agg #[vQ ((y.l.getD c Sp.zero).v),vQ 1,vQ u]) (h:=by exact Yl.Xl (n:=3) (sz:=1) (vs:=[(0,vQ ((y.l.getD c Sp.zero).v)),(1,vQ 1),(2,vQ u)]) rfl rfl kr kr)) fun a Z E=>?_)
   refine fo Z 16 rfl rfl ?_
   refine rA Z (f:=223) (vs:=[.agg #[vQ ((y.l.getD c Sp.zero).v),vQ 1,vQ u]]) (fst:=[]) (caps:=[vP g9 0,vP g8 0]) rfl rfl rfl kr rfl de (q8z w _ g9 g8 _ (⟨(y.l.getD c Sp.zero).v,1,u⟩:Mb) q _ (E.pk [1,2,0,3])) ?_
   rintro _ w99 ⟨rfl,eX⟩
   refine ⟨_,rfl,?_⟩
   replace E:=eX
   clear Z;intro a Z
   refine Jb Z E ((lH∘Jj∘JR∘Jp 1∘bn 1∘Jp 1∘aF∘Jq) fun a Z E=>?_)
   exact ⟨_,om,u+1,(q++[(⟨(y.l.getD c Sp.zero).v,1,u⟩:Mb)]),by omega,by omega,by rw [mZ,hq,List.append_assoc];rfl,rfl,Z.sub kr,E.pk [0,1,3]⟩
  intro a Z E
  rw [qpn (by simpa using jJ)] at mZ
  refine Jb Z E ((JF∘aG∘JR∘Jp 1∘bn 1∘Jp 1∘aT∘Jq) fun a Z E=>?_)
  exact ⟨_,om,u+1,q,by omega,by omega,by rw [mZ,hq];simp,rfl,Z.sub kr,E.pk [1,2,3]⟩
 intro a Z E
 have Iy:=of_decide_eq_false Iw
 have hqm:q=dB x.aD g c:=by rw [hq,Tp,rO,show u=x.rs.length by omega,q09];rfl
 refine Jb Z E ((JF∘JX) fun a Z E=>?_)
 refine wp_seq ?_
 refine Jb Z E ((Vs (.t (.t (.f .n))) []) fun anm=>(Vy 0 (v:= .agg ((dx iU q).cells)) (h:=by exact Yl.qf rfl rfl DU rfl (fun _ h=>qb (h.blk (i:=1) rfl)))∘Vc 1 O0) fun a Z E HS=>?_)
 refine s_on Z 2 rfl (iX Z E 2 rfl rfl rfl rfl rfl DU rfl rfl (Tx (dx iU q)) ?_)
 clear E;intro Fx E
 refine au (E.pk [0,1]) (fun HS=>?_)
 refine Vb Z E HS ((Vp [3]∘Vd∘aT∘JZ) fun a Z E=>?_)
 exact jc rfl Z (.cellS (i:=2) Z E rfl rfl DU rfl) (.tmp Z rfl) (⟨by rw [←hqm],E.below⟩)
theorem q1g (x:dK) (hok:x.aD.Ok) (hf:aX x) (hsh:ShAt x) (gm c:Nat) (hc:(c:Int)<x.aB):∀(n g:Nat),x.rs.length-g≤n→g<x.rs.length→XH x gm c g:=by
 intro n
 induction n with
 |zero=>intro g h1 h2;omega
 |succ n ih=>intro g h1 h2;exact qw8 x hok hf hsh gm c hc g h2 fun h h3 h4=>ih h om h4
theorem q2p {l:List Tk} {id:Int} (h:fidx l id<0):gy l id=none:=by
 rcases qlp l id with h1|⟨i,h1,_⟩
 ·exact h1.2
 ·omega
theorem qvg {l:List Tk} {id:Int} (h:¬fidx l id<0):∃i:Nat,fidx l id=i∧gy l id=some i∧i<l.length∧(l.getD i Tk.zero).id=id:=by
 rcases qlp l id with h1|h1
 ·omega
 ·exact h1
theorem qsv (x:dK) (hok:x.aD.Ok) (hf:aX x) (w:World) (hx:cB w x):
    Calls Tryz.prog 105 #[.agg x.cells] w (Is w (.bool (sV x.aD))):=by
 have Ph:=hf.s;have hft:=hf.t;have hfg:=hf.g;have hfl:=hf.l;have hfu:=hf.u
 refine (bZ Tryz.func105 81) ?_
 refine (JP∘JE) fun w1 g1=>(Jp 1∘Jj∘JQ∘JP∘Jy (v:= .agg x.cells) (h:=by exact Yl.qf rfl rfl dD rfl (fun _ h=>qb (h.blk (i:=0) rfl)))∘JI (h:=by exact fun E=>qw6 x hok hf _ (hx.old E))) fun Ld hbw=>(Jp 1∘aT∘Jj) (Ju (fun dS=>?_) fun dS=>?_)
 ·
  exact (JT∘JP∘Jp 1∘Jj∘JZ∘aH) fun E=>aM (zT (by simpa using dS)).symm E.below
 intro a Z E
 have hsd:zw x.aD=true:=by simpa using dS
 have hsh:=zQ hsd
 have hs:=zan hsh
 obtain ⟨hc1,hc2,_,_⟩:=yS hsh.cfg
 have YB:=hsh.cu
 refine Jb Z E ((JF∘aG∘JP∘Jy (v:= .agg x.cells) (h:=by exact Yl.qf rfl rfl dD rfl (fun _ h=>qb (h.blk (i:=0) rfl)))∘Jy (v:= .agg #[vI x.aB,vQ x.ak,.slice x.gA x.gs.length x.gc,.slice x.lA x.cl.length x.lc,.slice x.uA x.cu.length x.uc,.slice x.tA x.ts.length x.tc,.slice x.sA x.rs.length x.sc,.bool true]) (h:=by exact Yl.build (vs:=[(0,.agg x.cells),(1,.bool true)]) rfl kr kr)∘JE) fun w16 g16=>(Jp 1∘bQ∘Jj∘JQ∘JP∘Jg 4 O1∘Jl∘Jp 1∘Jj∘JB) fun a Z E=>?_)
 refine qc (fun mS aS wS=>∃(c:Nat),(c≤x.cu.length)∧(bL c fun c=>eP x.aD c&&eB x.rs.length fun g=>iV x.aD g c)∧mS=x.cu.length-c∧Fr aS 81 [] [(20,vI c),(19,vI x.cu.length),(18,.slice x.uA x.cu.length x.uc),(3,vP g16 0),(13,.bool false),(2,.bool false),(1,vP g1 0)]∧Mem w wS [.blk g16 #[vI x.aB,vQ x.ak,.slice x.gA x.gs.length x.gc,.slice x.lA x.cl.length x.lc,.slice x.uA x.cu.length x.uc,.slice x.tA x.ts.length x.tc,.slice x.sA x.rs.length x.sc,.bool true] 273,.blk g1 x.cells 48]) (m:=x.cu.length-0) ⟨0,Nat.zero_le _,bL.zero,rfl,Z.sub kr,E.pk [0,1]⟩ ?_
 clear Z E;rintro mS a w_ ⟨c,hc,hu,rfl,Z,E⟩
 refine Jb Z E ((JP∘Jp 1∘Jj∘JQ) (Ju (fun fT=>?_) fun fT=>?_))
 ·
  intro a Z E
  have nO:=of_decide_eq_true fT
  have hc21:c<x.cu.length:=by omega
  obtain ⟨id,hid⟩:∃z,(x.cu.getD c 0)=z:=⟨_,rfl⟩
  refine Jb Z E ((JT∘aG∘JQ∘JB∘JP∘Jp 1) fun a Z E=>?_)
  obtain ⟨dU,dV,hq1,_⟩:=Rd.qd hx.u (Nat.lt_of_le_of_lt (Nat.zero_le _) (show c<x.cu.length from by omega)) de
  have aZ:=hx.u;rw [hq1] at aZ
  replace Z:=Z.sp 18 (.slice (some ⟨dU,dV,none⟩) x.cu.length x.uc) rfl (by rw [hq1];try rfl)
  refine Jb Z E ((Jy (h:=by exact Yl.ix dU dV c 1 rfl rfl rfl)∘Jy (v:=vI (x.cu.getD c 0)) (h:=by exact Yl.o1 aZ c 0 om rfl rfl)∘Jo (vI id) (by rw [hid])∘Jp 2∘Jr∘Jp 2∘JI (h:=by exact fun E=>q1f x g16 id hs _ (E.blk (i:=0) rfl) (E.old hx.t) hf.t)) fun LW hbw=>(Jp 1∘bQ∘Jj∘JQ) fun a Z E=>?_)
  refine zn (fun aS wS=>Fr aS 81 [] [(52,.bool (!eP x.aD c)),(6,vI (fidx x.ts id)),(5,vI id),(4,vI c),(18,.slice (some ⟨dU,dV,none⟩) x.cu.length x.uc),(21,.bool true),(20,vI c),(19,vI x.cu.length),(3,vP g16 0),(13,.bool false),(2,.bool false),(1,vP g1 0)]∧Mem w wS [.blk g16 #[vI x.aB,vQ x.ak,.slice x.gA x.gs.length x.gc,.slice x.lA x.cl.length x.lc,.slice x.uA x.cu.length x.uc,.slice x.tA x.ts.length x.tc,.slice x.sA x.rs.length x.sc,.bool true] 273,.blk g1 x.cells 48]) ?_ ?_
  ·
   refine zg ?_
   refine Jb Z E ((Jp 3) (Jh (fun vT=>?_) fun vT=>?_))
   ·
    refine (Jp 3) (Ju (fun vU=>?_) fun vU=>?_)
    ·
     intro a Z E
     have vG:=of_decide_eq_true vU
     refine Jb Z E ((Jv 19 [(52,.bool true)]∘aF∘Jq) fun a Z E=>?_)
     have Z:=Z.sp 52 (.bool (!eP x.aD c)) rfl (congrArg Value.bool (by rw [qln (by rw [hid];omega) (by rw [hid];exact q2p om)];rfl))
     exact ⟨Z.sub kr,E.pk [0,1]⟩
    intro a Z E
    have vG:=of_decide_eq_false vU
    obtain ⟨i,hfi,hfs,hil,YC⟩:=qvg (l:=x.ts) (id:=id) om
    refine Jb Z E ((Jg 5 O1∘Jp 1∘Jo (vI i) (by rw [hfi])) fun a Z E=>?_)
    obtain ⟨lK,lM,hq3,_⟩:=Rd.qd hx.t (Nat.lt_of_le_of_lt (Nat.zero_le _) (show i<x.ts.length from by omega)) de
    have gB:=hx.t;rw [hq3] at gB
    replace Z:=Z.sp 35 (.slice (some ⟨lK,lM,none⟩) x.ts.length x.tc) rfl (by rw [hq3];try rfl)
    refine Jb Z E ((Jy (h:=by exact Yl.ix lK lM i 8 rfl rfl rfl)∘Jf 5∘Jy (v:= .bool ((x.ts.getD i Tk.zero).ready)) (h:=by exact Yl.qj rfl rfl kr (fun _ h=>(h.old gB).partAt sw (k:=i) (j:=5) (x:=(x.ts.getD i Tk.zero)) ((getD_at Tk.zero om)) rfl))∘Jp 3) (Ju (fun vV=>?_) fun vV=>?_))
    ·
     refine (Jv 10 [(52,.bool true)]∘aF∘Jq) fun a Z E=>?_
     have Z:=Z.sp 52 (.bool (!eP x.aD c)) rfl (congrArg Value.bool (by rw [NR (by rw [hid];omega) (by rw [hid];exact hfs),(Bool.not_eq_true' _).mp vV];rfl))
     exact ⟨Z.sub kr,E.pk [0,1]⟩
    refine (Jg 5 O1∘Jp 1∘Jo (vI i) (by rw [hfi])) fun a Z E=>?_
    replace Z:=Z.sp 44 (.slice (some ⟨lK,lM,none⟩) x.ts.length x.tc) rfl (by rw [hq3];try rfl)
    refine Jb Z E ((Jy (h:=by exact Yl.ix lK lM i 8 rfl rfl rfl)∘Jf 3∘Jy (v:=vI ((x.ts.getD i Tk.zero).cpu)) (h:=by exact Yl.qj rfl rfl kr (fun _ h=>(h.old gB).partAt sw (k:=i) (j:=3) (x:=(x.ts.getD i Tk.zero)) ((getD_at Tk.zero om)) rfl))∘Jp 4∘aF∘Jq) fun a Z E=>?_)
    have Z:=Z.sp 52 (.bool (!eP x.aD c)) rfl (congrArg Value.bool (by rw [NR (by rw [hid];omega) (by rw [hid];exact hfs),(Bool.not_eq_false' _).mp vV,Bool.true_and,bne,Bool.eq_iff_iff];simp))
    exact ⟨Z.sub kr,E.pk [0,1]⟩
   refine (Jv 22 [(52,.bool false)]∘bQ∘Jq) fun a Z E=>?_
   have Z:=Z.sp 52 (.bool (!eP x.aD c)) rfl (congrArg Value.bool (by rw [qlo (by rw [hid];omega)];rfl))
   exact ⟨Z.sub kr,E.pk [0,1]⟩
  clear Z E;rintro a w8 ⟨Z,E⟩
  refine Jb Z E (Ju (fun vX=>?_) fun vX=>?_)
  ·
   exact (JT∘JP∘Jp 1∘Jj∘JZ∘aH) fun E=>aM (wU hc21 (by simpa using vX)).symm E.below
  refine (JF∘aG∘JP∘Jg 6 O1∘Jl∘Jp 1∘Jj∘JB) fun a Z E=>?_
  refine qc (fun mS aS wS=>∃(g:Nat),(g≤x.rs.length)∧(bL g fun g=>iV x.aD g c)∧mS=x.rs.length-g∧Fr aS 81 [] [(56,vI g),(55,vI x.rs.length),(54,.slice x.sA x.rs.length x.sc),(52,.bool false),(6,vI (fidx x.ts id)),(5,vI id),(4,vI c),(18,.slice (some ⟨dU,dV,none⟩) x.cu.length x.uc),(21,.bool true),(20,vI c),(19,vI x.cu.length),(3,vP g16 0),(13,.bool false),(2,.bool false),(1,vP g1 0)]∧Mem w wS [.blk g16 #[vI x.aB,vQ x.ak,.slice x.gA x.gs.length x.gc,.slice x.lA x.cl.length x.lc,.slice x.uA x.cu.length x.uc,.slice x.tA x.ts.length x.tc,.slice x.sA x.rs.length x.sc,.bool true] 273,.blk g1 x.cells 48]) (m:=x.rs.length-0) ⟨0,Nat.zero_le _,bL.zero,rfl,Z.sub kr,E.pk [0,1]⟩ ?_
  clear Z E;rintro mS a w_ ⟨g,hg,hu2,rfl,Z,E⟩
  refine Jb Z E ((JP∘Jp 1∘Jj∘JQ) (Ju (fun IQ=>?_) fun IQ=>?_))
  ·
   intro a Z E
   have Io:=of_decide_eq_true IQ
   have vY:g<x.rs.length:=by omega
   obtain ⟨y,hy⟩:∃z,x.rs.getD g Rw.zero=z:=⟨_,rfl⟩
   have jG:Rd w w.heap.size 3 y.A y.l.length (y.l.flatMap jy):=by rw [←hy];exact hx.row vY
   have hyl:(y.l.length:Int)=x.aB:=by rw [←hy];exact (FD vY (hsh.row g vY)).1
   refine Jb Z E ((JT∘aG∘JQ∘JB∘JP∘Jp 1) fun a Z E=>?_)
   obtain ⟨lX,lY,hq4,_⟩:=Rd.qd hx.s (Nat.lt_of_le_of_lt (Nat.zero_le _) (show g<x.rs.length from by omega)) de
   have gP:=hx.s;rw [hq4] at gP
   replace Z:=Z.sp 54 (.slice (some ⟨lX,lY,none⟩) x.rs.length x.sc) rfl (by rw [hq4];try rfl)
   refine Jb Z E ((Jy (h:=by exact Yl.ix lX lY g 1 rfl rfl rfl)∘Jy (v:= .slice ((x.rs.getD g Rw.zero).A) ((x.rs.getD g Rw.zero).l.length) ((x.rs.getD g Rw.zero).c)) (h:=by exact Yl.o1 gP g Rw.zero vY rfl rfl)∘Jo (.slice y.A y.l.length y.c) (by rw [hy])∘Jp 2∘Jr∘Jp 3∘JL (h:=by exact fun E=>q1g x hok hf hsh g16 c om _ g (Nat.le_refl _) vY _ (hx.old E) (E.blk (i:=0) rfl))) ?_)
   rintro E _ w65 ⟨rfl,hbw⟩
   refine ⟨_,rfl,_,E.call hbw,?_⟩
   refine (Jp 1∘Jx∘Jx∘JA #[vQ 0,vQ 0,vQ 0]) fun w9 g9=>(JV DU bg (h1:=by exact Tx (dx iU (dB x.aD g c)))) fun N7=>(Jp 1∘Jj) fun a Z E=>?_
   refine zn (fun aS wS=>Fr aS 81 [] [(78,.bool (!iV x.aD g c)),(10,.bool (!(dB x.aD g c).isEmpty)),(9,vP g9 0),(8,.slice y.A y.l.length y.c),(7,vI g),(54,.slice (some ⟨lX,lY,none⟩) x.rs.length x.sc),(57,.bool true),(56,vI g),(55,vI x.rs.length),(52,.bool false),(6,vI (fidx x.ts id)),(5,vI id),(4,vI c),(18,.slice (some ⟨dU,dV,none⟩) x.cu.length x.uc),(21,.bool true),(20,vI c),(19,vI x.cu.length),(3,vP g16 0),(13,.bool false),(2,.bool false),(1,vP g1 0)]∧Mem w wS [.blk g9 ((dx iU (dB x.aD g c)).cells) 283,.blk g16 #[vI x.aB,vQ x.ak,.slice x.gA x.gs.length x.gc,.slice x.lA x.cl.length x.lc,.slice x.uA x.cu.length x.uc,.slice x.tA x.ts.length x.tc,.slice x.sA x.rs.length x.sc,.bool true] 273,.blk g1 x.cells 48]) ?_ ?_
   ·
    refine Jb Z E ((Vs .n []) fun IU=>(Vp [0,1]) fun a Z E HS=>?_)
    rcases Z.tf 69 rfl with ⟨IV,Z⟩|⟨IV,Z⟩
    ·
     refine Vb Z E HS ((Vp [4,5]∘Vy 2 (v:= .agg ((dx iU (dB x.aD g c)).cells)) (h:=by exact Yl.qf rfl rfl DU rfl (fun _ h=>qb (h.blk (i:=0) rfl)))) fun a Z E HS=>?_)
     obtain ⟨Pj,Pk,Pn,_⟩:=Rd.qd jG (Nat.lt_of_le_of_lt (Nat.zero_le _) (show c<y.l.length from by omega)) de
     have FZ:=jG;rw [Pn] at FZ
     replace Z:=Z.sp 72 (.slice (some ⟨Pj,Pk,none⟩) y.l.length y.c) rfl (by rw [Pn];try rfl)
     refine Vb Z E HS ((Vy 6 (h:=by exact Yl.ix Pj Pk c 3 rfl rfl rfl)∘Vf 7 2∘Vy 8 (v:=vQ ((y.l.getD c Sp.zero).floor)) (h:=by exact Yl.qj rfl rfl kr (fun _ h=>(h.old FZ).partAt vF (k:=c) (j:=2) (x:=(y.l.getD c Sp.zero)) ((getD_at Sp.zero om)) rfl))∘VI 3 .n (h:=by exact fun E=>zdt (dx iU (dB x.aD g c)) _)) fun w71 hbw=>(Vp [9,10]∘Vd∘jq) fun a Z E=>?_)
     have Z:=Z.sp 78 (.bool (!iV x.aD g c)) rfl (congrArg Value.bool (by rw [Xp (by simpa using IV),Xq vY,hy,←decide_not];exact decide_eq_decide.2 om))
     exact ⟨Z.sub kr,E.pk [0,1,2]⟩
    refine ap Z (fun _=>HS) [2,3,4,5,6,7,8,9,10] (bt 11 []) [(78,.bool false)] fun a Z=>?_
    refine qg kr ?_
    have Z:=Z.sp 78 (.bool (!iV x.aD g c)) rfl (congrArg Value.bool (by rw [Xo (by simpa using IV)];rfl))
    exact ⟨Z.sub kr,E.pk [0,1,2]⟩
   clear Z E;rintro a Fj ⟨Z,E⟩
   refine Jb Z E (Ju (fun sZ=>?_) fun sZ=>?_)
   ·
    exact (JT∘JP∘Jp 1∘Jj∘JZ∘aH) fun E=>aM (zU hc21 vY (by simpa using sZ)).symm E.below
   refine (JF∘aG∘JR∘bn 1∘Jp 1∘aQ∘Jq) fun a Z E=>?_
   replace Z:=Z.sp 54 (.slice x.sA x.rs.length x.sc) rfl (by rw [hq4])
   exact ⟨_,om,g+1,by omega,hu2.succ (by simpa using sZ),rfl,Z.sub kr,E.pk [1,2]⟩
  intro a Z E
  have Io:=of_decide_eq_false IQ
  refine Jb Z E ((JF∘JX∘JG∘JR∘bn 1∘Jp 1∘aQ∘Jq) fun a Z E=>?_)
  replace Z:=Z.sp 18 (.slice x.uA x.cu.length x.uc) rfl (by rw [hq1])
  exact ⟨_,om,c+1,by omega,hu.succ (by rw [show eP x.aD c=true by simpa using vX,Bool.true_and];exact bL.all fun i hi=>hu2 i om),rfl,Z.sub kr,E.pk [0,1]⟩
 intro a Z E
 have nO:=of_decide_eq_false fT
 exact Jb Z E ((JF∘JX∘JG∘JP∘Jp 1∘Jj∘JZ∘aH) fun E=>aM (FE hsd (fun i hi=>hu i om)).symm E.below)
def eG {α:Type} (k:Nat) (f:Nat→List α):List α:=(List.range k).flatMap f
theorem qr {α:Type} (k:Nat) (f:Nat→List α):eG (k+1) f=eG k f++f k:=by unfold eG;rw [List.range_succ,List.flatMap_append];simp
theorem qc2 {α:Type} (f:Nat→List α):eG 0 f=[]:=rfl
theorem Tz {α:Type} {f:Nat→List α} {m:Nat} (h:∀i,(f i).length≤m):∀k,(eG k f).length≤m*k
 |0=>Nat.zero_le _
 |k+1=>by rw [qr,List.length_append,Nat.mul_succ];have:=Tz h k;have:=h k;omega
theorem q1b {α:Type} {f:Nat→List α} {m:Nat}:∀k,(∀i,i<k→(f i).length≤m)→(eG k f).length≤m*k
 |0,_=>Nat.zero_le _
 |k+1,h=>by rw [qr,List.length_append,Nat.mul_succ];have:=q1b k (fun i hi=>h i om);have:=h k om;omega
theorem LA {α:Type} {f:Nat→List α} {p:α→Prop}:∀k,(∀i,i<k→∀x∈f i,p x)→∀x∈eG k f,p x
 |0,_=>fun x hx=>by cases hx
 |k+1,h=>fun x hx=>by
  rw [qr] at hx
  rcases List.mem_append.1 hx with hx|hx
  ·exact LA k (fun i hi=>h i om) x hx
  ·exact h k om x hx
def ay (n:Int):Nat:=(n%18446744073709551616).toNat
theorem FH (n:Int):ay n<18446744073709551616:=by unfold ay;omega
theorem zl (n:Int):Value.int .u64 (Go.IntKind.u64.wrap n)= .int .u64 ((ay n:Nat):Int):=by
 unfold ay
 rw [Int.toNat_of_nonneg (Int.emod_nonneg _ de)]
 rfl
structure bH where
 next:Int
 st:dK
def bH.cells (s:bH):Array Value:= #[.int .i64 s.next,.int .i64 s.st.aB,.int .u64 (s.st.ak:Int),.slice s.st.gA s.st.gs.length s.st.gc,.slice s.st.lA s.st.cl.length s.st.lc,.slice s.st.uA s.st.cu.length s.st.uc,.slice s.st.tA s.st.ts.length s.st.tc,.slice s.st.sA s.st.rs.length s.st.sc]
theorem Xt (x:bH):∀v∈x.cells.toList,v.oneCell'=true:=by simp [bH.cells,Value.oneCell']
def yT (l:List Gr) (i:Nat):List Nat:=[ay (l.getD (i+1) Gr.zero).parent,ay (l.getD (i+1) Gr.zero).weight]
def qh (l:List Tk) (i:Nat):Int:=if i=0 then 0 else (l.getD (i-1) Tk.zero).id
def sD (p:Int) (t:Tk):List Nat:=[ay (t.id-p),ay t.group,ay t.weight,ay t.cpu,t.mask,if t.ready then 1 else 0,t.v,t.r]
def yU (g:Nat) (z:Sp):List Nat:=(if 0<g then [z.v,z.r] else [])++[z.floor]
def zV (g:Nat) (l:List Sp):List Nat:=eG l.length fun c=>yU g (l.getD c Sp.zero)
def aK (s:bH):Nat→List Nat
 |0=>[ay s.next]
 |1=>[ay s.st.aB,s.st.ak,s.st.gs.length]
 |2=>eG (s.st.gs.length-1) (yT s.st.gs)
 |3=>s.st.cl.map ay
 |4=>s.st.cu.map ay
 |5=>s.st.ts.length::eG s.st.ts.length fun i=>sD (qh s.st.ts i) (s.st.ts.getD i Tk.zero)
 |6=>eG s.st.rs.length fun g=>zV g (s.st.rs.getD g Rw.zero).l
 |_=>[]
def qa:Nat→ByteArray
 |0=>⟨#[110,101,120,116]⟩
 |1=>⟨#[99,111,110,102,105,103]⟩
 |2=>⟨#[103,114,111,117,112,115]⟩
 |3=>⟨#[99,108,111,99,107,115]⟩
 |4=>⟨#[99,117,114,114,101,110,116]⟩
 |5=>⟨#[116,97,115,107,115]⟩
 |6=>⟨#[115,112,111,116,115]⟩
 |_=>⟨#[]⟩
def bJ (s:bH):Nat:=if s.next<1∨281474976710657<s.next then 330 else if sV s.st.aD=false then 331 else 0
def iN (s:bH):List Nat:=eG 7 (aK s)
def dN (s:bH):List Nat:=[113,115,1]++(iN s).flatMap aj
def bT (s:bH):List Nat:=if bJ s=0 then bF (dN s) else []
structure jA where
 nm:ByteArray
 fr:Nat
 to:Nat
def gM (x:jA):List Value:=[.string x.nm,.int .i64 (x.fr:Int),.int .i64 (x.to:Int)]
theorem q6f (x:jA):(gM x).length=3:=rfl
def yV (w:World) (R:List Nat) (r:Ending) (w':World):Prop:=
 (∃A c,r= .returned (.slice A R.length c)∧w'.ownsRow w.heap.size 41 1 (.slice A R.length c) R.length (R.map aR)∧R.length≤c)∧Below w.heap.size w w'
theorem zd {w w':World} {q R:List Nat} {A:Option Addr} {c:Nat} (h:q=R) (ho:w'.ownsRow w.heap.size 41 1 (.slice A q.length c) q.length (q.map aR)) (hc:q.length≤c) (hb:Below w.heap.size w w'):yV w R (.returned (.slice A q.length c)) w':=by
 subst h
 exact ⟨⟨A,c,rfl,ho,hc⟩,hb⟩
theorem zm (l:List Nat):∀u∈l.map aR,u.oneCell'=true:=by
 intro u hu
 obtain ⟨x,_,rfl⟩:=List.mem_map.1 hu
 rfl
theorem Xu {l:List Int} {k:Nat} (h:k<l.length):(l.take (k+1)).map ay=(l.take k).map ay++[ay (l.getD k 0)]:=by grind [List.getElem?_eq_getElem,List.take_add_one]
theorem q0 {α:Type} {a b:List α} {n:Nat} (h:b.length=n):a.length+n=(a++b).length:=by rw [List.length_append,h]
theorem q1c {n:Nat} (h:n<18446744073709551616):ay (n:Int)=n:=by unfold ay;omega
theorem zao {w:World} {A A2:Option Addr} {l:List Gr} {c:Nat} (h:Rd w w.heap.size 2 A l.length (l.flatMap gZ)) (h1:1≤l.length) (hc:l.length≤c) (hA:(if c=1 then A else A.map (·.add (1*2)))=A2):Rd w w.heap.size 2 A2 (l.drop 1).length ((l.drop 1).flatMap gZ):=by
 have h2:=Rd.zfj zx h h1 hc
 rw [hA] at h2
 exact h2
theorem getD_drop {α:Type} (l:List α) (j k:Nat) (d:α):(l.drop j).getD k d=l.getD (k+j) d:=by
 rw [List.getD_eq_getElem?_getD,List.getElem?_drop,List.getD_eq_getElem?_getD,Nat.add_comm]
theorem zt (l:List Tk) (k:Nat):qh l (k+1)=(l.getD k Tk.zero).id:=by unfold qh;rw [if_neg om];rfl
theorem qjv (l:List Tk):qh l 0=0:=rfl
theorem Xv {g:Nat} {z:Sp} (h:0<g):yU g z=[z.v,z.r]++[z.floor]:=by unfold yU;rw [if_pos h]
theorem Xw {g:Nat} {z:Sp} (h:¬0<g):yU g z=[z.floor]:=by unfold yU;rw [if_neg h];rfl
theorem NT {p:Int} {t:Tk} (h:t.ready=true):sD p t=[ay (t.id-p),ay t.group,ay t.weight,ay t.cpu]++[t.mask,1,t.v,t.r]:=by unfold sD;rw [h];rfl
theorem NU {p:Int} {t:Tk} (h:t.ready=false):sD p t=[ay (t.id-p),ay t.group,ay t.weight,ay t.cpu]++[t.mask,0,t.v,t.r]:=by unfold sD;rw [h];rfl
theorem YV (A:Option Addr) (c:Nat) (l:List Int) (w:World) (hr:Rd w w.heap.size 1 A l.length (l.map bC)) (hn:l.length≤1000000):
    Calls Tryz.prog 277 #[.slice A l.length c] w (yV w (l.map ay)):=by
 refine (bZ Tryz.func277 19) ?_
 refine (JP∘Jp 1∘Jr∘Jp 1∘Jq) fun a Z E=>?_
 replace E:=E.nil 41 1
 refine Jb Z E ((JG∘JQ∘JP∘Jp 1∘Jl∘Jp 1∘Jj∘JB) fun a Z E=>?_)
 refine qc (fun mS aS wS=>∃(k:Nat) (q:List Nat) (Ao:Option Addr) (co:Nat),(k≤l.length)∧(q=(l.take k).map ay)∧(q.length=k)∧(q.length≤co)∧mS=l.length-k∧Fr aS 19 [] [(8,vI k),(7,vI l.length),(6,.slice A l.length c),(3,.slice Ao q.length co),(2,vN)]∧Mem w wS [.row (.slice Ao q.length co) q.length (q.map aR) 41 1]) (m:=l.length-0) ⟨0,[],none,0,Nat.zero_le _,rfl,rfl,Nat.le_refl _,rfl,Z.sub kr,E.pk [0]⟩ ?_
 clear Z E;rintro mS a w_ ⟨k,q,Ao,co,hk,hq,kF,hco,rfl,Z,E⟩
 refine Jb Z E ((JP∘Jp 1∘Jj∘JQ) (Ju (fun lI=>?_) fun lI=>?_))
 ·
  intro a Z E
  have vv:=of_decide_eq_true lI
  have yX:k<l.length:=by omega
  refine Jb Z E ((JT∘aG∘JQ∘JB∘JP) ?_)
  repeat (first|clear Z|clear E)
  intro a Z E
  obtain ⟨gA,oA,rfl,_⟩:=hr.qd (Nat.lt_of_le_of_lt (Nat.zero_le _) (show k<l.length from by omega)) de
  refine Jb Z E ((Jy (h:=by exact Yl.ix gA oA k 1 rfl rfl rfl)∘Jy (h:=by exact Yl.o1 hr k 0 yX rfl rfl)∘Jp 1∘aT∘Jj∘JR∘Jp 2∘Jv 1 [(14,vQ (IntKind.u64.wrap (l.getD k 0)))]∘Jo (vQ (ay (l.getD k 0))) (by exact zl _)∘JU qt #[vQ (ay (l.getD k 0))]) fun CO g15=>(JD ([ay (l.getD k 0)].map aR) 1 (fun _ _=>gQ) qt (hr:=by exact fun E=>E.aN (i:=0) (n:=1) (size:=1) rfl rfl) (h1:=by exact zm _)) fun w16 jg c16 hc16=>(Jp 1∘jq∘Jq) fun a Z E=>?_)
  have oK:q.length+1=(q++[ay (l.getD k 0)]).length:=q0 rfl
  replace E:=E.aI (i:=1) (ys:=(q++[ay (l.getD k 0)]).map aR) rfl oK (List.map_append.symm)
  rw [oK] at hc16
  replace Z:=Z.sp 3 (.slice jg ((q++[ay (l.getD k 0)]).length) c16) rfl (by rw [oK])
  refine Jb Z E ((JG∘JR∘bn 1∘Jp 1∘aQ∘Jq) fun a Z E=>?_)
  exact ⟨_,om,k+1,(q++[ay (l.getD k 0)]),jg,c16,by omega,by rw [hq,Xu yX],by rw [List.length_append,kF];rfl,hc16,rfl,Z.sub kr,E.pk [1]⟩
 intro a Z E
 have vv:=of_decide_eq_false lI
 exact Jb Z E ((JF∘JX∘JG∘JP∘Jp 2∘aQ∘Jj∘JZ∘aH) fun E=>zd (by rw [hq,List.take_of_length_le om]) (E.own (i:=0) rfl) hco E.below)
theorem PG (A:Option Addr) (c n:Nat) (l:List Int) (R:List Nat) (w:World) (hl:l.length=n) (hr:Rd w w.heap.size 1 A n (l.map bC)) (hn:n≤1000000) (hR:l.map ay=R):
  Calls Tryz.prog 277 #[.slice A n c] w (yV w R):=by
 subst hl;subst hR
 exact YV A c l w hr hn
theorem q2s (s:bH) (hok:s.st.aD.Ok) (hf:aX s.st) (w:World) (hx:cB w s.st):
    Calls Tryz.prog 230 #[.agg s.cells] w (yV w (aK s 0)):=by
 refine (bZ Tryz.func230 7) ?_
 refine (JP∘JE) fun w1 g1=>(Jp 1∘Jr∘Jg 0 O0∘JU yL #[vI s.next]) fun w5 g5=>(JK (h:=by exact fun E=>PG (some ⟨g5,0,none⟩) 1 1 [s.next] [ay s.next] _ rfl (E.aN (i:=0) (n:=1) (size:=1) rfl rfl) de rfl)) fun A6 c6 w6 hc6=>fun a Z E=>?_
 have aqt: [ay s.next].length=1:=rfl
 exact Jb Z E ((Jp 1∘bQ∘Jj∘JZ∘aH) fun E=>zd rfl (E.own (i:=0) rfl) hc6 E.below)
theorem qsx (s:bH) (hok:s.st.aD.Ok) (hf:aX s.st) (w:World) (hx:cB w s.st):
    Calls Tryz.prog 231 #[.agg s.cells] w (yV w (aK s 1)):=by
 have hgl:=hf.g
 refine (bZ Tryz.func231 17) ?_
 refine (JP∘JE) fun w1 g1=>(Jp 1∘Jr∘Jf 1∘Jf 0∘Jy (v:= .agg #[vI s.st.aB,vQ s.st.ak,.slice s.st.gA s.st.gs.length s.st.gc]) (h:=by exact Yl.qf rfl rfl uL rfl (fun _ h=>h.sub (i:=0) rfl 1 rfl))∘JA #[vI 0,vQ 0,vN]) fun w3 g3=>(JV uL bg) fun DC=>(bQ∘Jr∘Jg 0 O0∘Jv 1 [(9,vQ (IntKind.u64.wrap s.st.aB))]∘Jo (vQ (ay s.st.aB)) (by exact zl _)∘Jg 1 O0∘Jg 2 O0∘Jl∘Jw .u64∘JU qt #[vQ (ay s.st.aB),vQ s.st.ak,vQ s.st.gs.length]) fun w16 g16=>(Jp 1∘aF∘Jq) fun a Z E=>?_
 replace E:=(E.dJ (i:=0) (n:=3) (size:=1) rfl rfl de).lN (i:=0) (ys:=[ay s.st.aB,s.st.ak,s.st.gs.length].map aR) rfl (rfl)
 exact Jb Z E ((JG∘JZ∘aH) fun E=>zd (q:=[ay s.st.aB,s.st.ak,s.st.gs.length]) rfl (E.own (i:=0) rfl) (Nat.le_refl 3) E.below)
theorem qsy (s:bH) (hok:s.st.aD.Ok) (hf:aX s.st) (w:World) (hx:cB w s.st):
    Calls Tryz.prog 233 #[.agg s.cells] w (yV w (aK s 3)):=by
 refine (bZ Tryz.func233 7) ?_
 exact (JP∘JE) fun w1 g1=>(Jp 1∘Jr∘Jf 1∘Jg 3 O0∘JK (h:=by exact fun E=>YV s.st.lA s.st.lc s.st.cl _ (E.old hx.l) hf.l)) fun A6 c6 w6 hc6=>(Jp 1∘bQ∘Jj∘JZ∘aH) fun E=>zd rfl (E.own (i:=0) rfl) hc6 E.below
theorem qqi (s:bH) (hok:s.st.aD.Ok) (hf:aX s.st) (w:World) (hx:cB w s.st):
    Calls Tryz.prog 234 #[.agg s.cells] w (yV w (aK s 4)):=by
 refine (bZ Tryz.func234 7) ?_
 exact (JP∘JE) fun w1 g1=>(Jp 1∘Jr∘Jf 1∘Jg 4 O0∘JK (h:=by exact fun E=>YV s.st.uA s.st.uc s.st.cu _ (E.old hx.u) hf.u)) fun A6 c6 w6 hc6=>(Jp 1∘bQ∘Jj∘JZ∘aH) fun E=>zd rfl (E.own (i:=0) rfl) hc6 E.below
theorem qsz (s:bH) (hok:s.st.aD.Ok) (hf:aX s.st) (w:World) (hx:cB w s.st) (hc:fK s.st) (hsh:ShAt s.st):
    Calls Tryz.prog 232 #[.agg s.cells] w (yV w (aK s 2)):=by
 have hgl:=hf.g;have hgc:=hc.g
 have hg1:=(Ll (yS hsh.cfg).2.2.2).1
 obtain ⟨CW,PI⟩:∃z,(if s.st.gc=1 then s.st.gA else s.st.gA.map (·.add (1*2)))=z:=⟨_,rfl⟩
 have hr2:=zao hx.g hg1 hgc PI
 obtain ⟨m,hm⟩:∃z,s.st.gs.drop 1=z:=⟨_,rfl⟩
 have hml:m.length=s.st.gs.length-1:=by rw [←hm,List.length_drop]
 rw [hm] at hr2
 refine (bZ Tryz.func232 26) ?_
 refine (JP∘JE) fun w1 g1=>(Jp 1∘Jr∘Jp 1∘Jq) fun a Z E=>?_
 replace E:=E.nil 41 1
 refine Jb Z E ((JG∘JQ∘JP∘Jf 1∘Jf 0∘Jg 2 O1∘Jy (v:= .slice (if s.st.gc=1 then s.st.gA else (s.st.gA:Option Addr).map (·.add (1*2))) (s.st.gs.length-1) (s.st.gc-1)) (h:=by exact Yl.sliceFrom oz (j:=1) rfl rfl rfl om)∘Jo (.slice CW m.length (s.st.gc-1)) (by rw [PI,hml])∘Jl∘Jp 1∘Jj∘JB) fun a Z E=>?_)
 refine qc (fun mS aS wS=>∃(k:Nat) (q:List Nat) (Ao:Option Addr) (co:Nat),(k≤m.length)∧(q=eG k (yT s.st.gs))∧(q.length=2*k)∧(q.length≤co)∧mS=m.length-k∧Fr aS 26 [] [(12,vI k),(11,vI m.length),(10,.slice CW m.length (s.st.gc-1)),(3,.slice Ao q.length co),(2,vN)]∧Mem w wS [.row (.slice Ao q.length co) q.length (q.map aR) 41 1,.blk g1 s.cells 50]) (m:=m.length-0) ⟨0,[],none,0,Nat.zero_le _,rfl,rfl,Nat.le_refl _,rfl,Z.sub kr,E.pk [0,1]⟩ ?_
 clear Z E;rintro mS a w_ ⟨k,q,Ao,co,hk,hq,kF,hco,rfl,Z,E⟩
 refine Jb Z E ((JP∘Jp 1∘Jj∘JQ) (Ju (fun dS=>?_) fun dS=>?_))
 ·
  intro a Z E
  have kU:=of_decide_eq_true dS
  have tJ:k<m.length:=by omega
  refine Jb Z E ((JT∘aG∘JQ∘JB∘JP) ?_)
  repeat (first|clear Z|clear E)
  intro a Z E
  obtain ⟨YW,YX,rfl,_⟩:=hr2.qd (Nat.lt_of_le_of_lt (Nat.zero_le _) (show k<m.length from by omega)) de
  refine Jb Z E ((Jy (h:=by exact Yl.ix YW YX k 2 rfl rfl rfl)∘Jy (v:= .agg ((m.getD k Gr.zero).cells)) (h:=by exact Yl.qf rfl rfl nC rfl (fun _ h=>(h.old hr2).qm zx ((getD_at Gr.zero tJ))))∘JA #[vI 0,vI 0]) fun w5 g5=>(JV nC bg (h1:=by exact zdo (m.getD k Gr.zero))) fun PK=>(aT∘Jj∘JR∘Jp 1∘Jg 0 O0∘Jg 1 O0∘JU yL #[vI ((m.getD k Gr.zero).parent),vI ((m.getD k Gr.zero).weight)]) fun Pw g21=>(JK (h:=by exact fun E=>PG (some ⟨g21,0,none⟩) 2 2 [(m.getD k Gr.zero).parent,(m.getD k Gr.zero).weight] [ay (m.getD k Gr.zero).parent,ay (m.getD k Gr.zero).weight] _ rfl (E.aN (i:=0) (n:=2) (size:=1) rfl rfl) de rfl)) fun F4 CQ Fg hc22=>fun a Z E=>?_)
  have afU: [ay (m.getD k Gr.zero).parent,ay (m.getD k Gr.zero).weight].length=2:=rfl
  refine Jb Z E ((JD ([ay (m.getD k Gr.zero).parent,ay (m.getD k Gr.zero).weight].map aR) 3 (fun _ _=>xR) qt (hr:=by exact fun E=>E.rd (i:=0) rfl) (h1:=by exact zm _)) fun K6 F5 c23 Bd=>(Jp 1∘aF∘Jq) fun a Z E=>?_)
  have oL:q.length+([ay (m.getD k Gr.zero).parent,ay (m.getD k Gr.zero).weight].length)=(q++[ay (m.getD k Gr.zero).parent,ay (m.getD k Gr.zero).weight]).length:=q0 rfl
  replace E:=E.aI (i:=3) (ys:=(q++[ay (m.getD k Gr.zero).parent,ay (m.getD k Gr.zero).weight]).map aR) rfl oL (List.map_append.symm)
  rw [oL] at Bd
  replace Z:=Z.sp 3 (.slice F5 ((q++[ay (m.getD k Gr.zero).parent,ay (m.getD k Gr.zero).weight]).length) c23) rfl (by rw [oL])
  refine Jb Z E ((JG∘JR∘bn 1∘Jp 1∘aQ∘Jq) fun a Z E=>?_)
  exact ⟨_,om,k+1,(q++[ay (m.getD k Gr.zero).parent,ay (m.getD k Gr.zero).weight]),F5,c23,by omega,by rw [hq,qr,←hm,getD_drop];rfl,by rw [List.length_append,kF];rfl,Bd,rfl,Z.sub kr,E.pk [3,4]⟩
 intro a Z E
 have kU:=of_decide_eq_false dS
 exact Jb Z E ((JF∘JX∘JG∘JP∘Jp 2∘aQ∘Jj∘JZ∘aH) fun E=>zd (by rw [hq,show k=s.st.gs.length-1 by omega];try rfl) (E.own (i:=0) rfl) hco E.below)
theorem qxi (s:bH) (hok:s.st.aD.Ok) (hf:aX s.st) (w:World) (hx:cB w s.st) (hc:fK s.st) (hsh:ShAt s.st):
    Calls Tryz.prog 235 #[.agg s.cells] w (yV w (aK s 5)):=by
 have htl:=hf.t
 refine (bZ Tryz.func235 53) ?_
 refine (JP∘JE) fun w1 g1=>(Jp 1∘Jr∘Jf 1∘Jg 5 O0∘Jl∘JU yL #[vI s.st.ts.length]) fun Ld g12=>(JK (h:=by exact fun E=>PG (some ⟨g12,0,none⟩) 1 1 [(s.st.ts.length:Int)] [ay (s.st.ts.length:Int)] _ rfl (E.aN (i:=0) (n:=1) (size:=1) rfl rfl) de rfl)) fun WI c13 wP DI=>fun a Z E=>?_
 have afV: [ay (s.st.ts.length:Int)].length=1:=rfl
 refine Jb Z E ((Jp 1∘jq∘Jq) fun a Z E=>?_)
 have Bf: [ay (s.st.ts.length:Int)].length=[s.st.ts.length].length:=rfl
 replace E:=E.aI (i:=0) (ys:=[s.st.ts.length].map aR) rfl Bf (by rw [q1c om])
 rw [Bf] at DI
 replace Z:=Z.sp 3 (.slice WI ([s.st.ts.length].length) c13) rfl (by rw [Bf])
 refine Jb Z E ((JG∘JP∘Jp 1∘Jj∘JQ∘JP∘Jf 1∘Jg 5 O2∘Jl∘Jp 1∘Jj∘JB) fun a Z E=>?_)
 refine qc (fun mS aS wS=>∃(k:Nat) (q:List Nat) (Ao:Option Addr) (co:Nat),(k≤s.st.ts.length)∧(0≤qh s.st.ts k∧qh s.st.ts k≤65535)∧(q=[s.st.ts.length]++eG k fun i=>sD (qh s.st.ts i) (s.st.ts.getD i Tk.zero))∧(q.length=8*k+1)∧(q.length≤co)∧mS=s.st.ts.length-k∧Fr aS 53 [] [(18,vI k),(17,vI s.st.ts.length),(16,.slice s.st.tA s.st.ts.length s.st.tc),(4,vI (qh s.st.ts k)),(3,.slice Ao q.length co),(2,vN),(1,vP g1 0)]∧Mem w wS [.row (.slice Ao q.length co) q.length (q.map aR) 41 1,.blk g12 #[vI s.st.ts.length] 3,.blk g1 s.cells 50]) (m:=s.st.ts.length-0) ⟨0,[s.st.ts.length],WI,c13,Nat.zero_le _,by rw [qjv];decide,by rw [qc2,List.append_nil],rfl,DI,rfl,Z.sub kr,E.pk [0,1,2]⟩ ?_
 clear Z E;rintro mS a w_ ⟨k,q,Ao,co,hk,hp,hq,kF,hco,rfl,Z,E⟩
 refine Jb Z E ((JP∘Jp 1∘Jj∘JQ) (Ju (fun gJ=>?_) fun gJ=>?_))
 ·
  intro a Z E
  have mQ:=of_decide_eq_true gJ
  have Ei:k<s.st.ts.length:=by omega
  obtain ⟨t,ht⟩:∃z,(s.st.ts.getD k Tk.zero)=z:=⟨_,rfl⟩
  have vK:=qF (hsh.tk k Ei)
  rw [ht] at vK
  have hto:=hok.ts _ (qi Tk.zero Ei)
  replace hto:Tk.Ok t:=by rw [←ht];exact hto
  have htr:=hto.r
  refine Jb Z E ((JT∘aG∘JQ∘JB∘JP) fun a Z E=>?_)
  obtain ⟨dU,dV,hq1,_⟩:=Rd.qd hx.t (Nat.lt_of_le_of_lt (Nat.zero_le _) (show k<s.st.ts.length from by omega)) de
  have aZ:=hx.t;rw [hq1] at aZ
  replace Z:=Z.sp 16 (.slice (some ⟨dU,dV,none⟩) s.st.ts.length s.st.tc) rfl (by rw [hq1];try rfl)
  refine Jb Z E ((Jy (h:=by exact Yl.ix dU dV k 8 rfl rfl rfl)∘Jy (v:= .agg ((s.st.ts.getD k Tk.zero).cells)) (h:=by exact Yl.qf rfl rfl eU rfl (fun _ h=>(h.old aZ).qm sw ((getD_at Tk.zero Ei))))∘Jo (.agg t.cells) (by rw [ht])∘JA #[vI 0,vI 0,vI 0,vI 0,vQ 0,.bool false,vQ 0,vW 0]) fun w6 g6=>(JV eU bg (h1:=by exact Lm t)) fun zN=>(aT∘Jr∘Jp 1∘Jj∘JQ∘JP∘Jg 5 O0∘Jj) (Ju (fun fU=>?_) fun fU=>?_))
  ·
   refine (JT∘JR∘Jp 1∘Jr∘Jp 1∘Jg 0 O0∘Jp 2∘Jo (vI (t.id-qh s.st.ts k)) (by exact Dp ⟨by omega,by omega⟩)∘Jg 1 O0∘Jg 2 O0∘Jg 3 O0∘JU yL #[vI (t.id-qh s.st.ts k),vI t.group,vI t.weight,vI t.cpu]) fun PL YZ=>(JK (h:=by exact fun E=>PG (some ⟨YZ,0,none⟩) 4 4 [t.id-qh s.st.ts k,t.group,t.weight,t.cpu] [ay (t.id-qh s.st.ts k),ay t.group,ay t.weight,ay t.cpu] _ rfl (E.aN (i:=0) (n:=4) (size:=1) rfl rfl) de rfl)) fun wu uO Ej nU=>fun a Z E=>?_
   have PN: [ay (t.id-qh s.st.ts k),ay t.group,ay t.weight,ay t.cpu].length=4:=rfl
   refine Jb Z E ((JD ([ay (t.id-qh s.st.ts k),ay t.group,ay t.weight,ay t.cpu].map aR) 3 (fun _ _=>xR) qt (hr:=by exact fun E=>E.rd (i:=0) rfl) (h1:=by exact zm _)) fun CS lJ c37 jF=>(Jp 1∘aF∘Jq) fun a Z E=>?_)
   have dW:q.length+([ay (t.id-qh s.st.ts k),ay t.group,ay t.weight,ay t.cpu].length)=(q++[ay (t.id-qh s.st.ts k),ay t.group,ay t.weight,ay t.cpu]).length:=q0 rfl
   replace E:=E.aI (i:=3) (ys:=(q++[ay (t.id-qh s.st.ts k),ay t.group,ay t.weight,ay t.cpu]).map aR) rfl dW (List.map_append.symm)
   rw [dW] at jF
   replace Z:=Z.sp 3 (.slice lJ ((q++[ay (t.id-qh s.st.ts k),ay t.group,ay t.weight,ay t.cpu]).length) c37) rfl (by rw [dW])
   refine Jb Z E ((JG∘JP∘Jp 1∘Jg 4 O2∘Jp 1∘Jg 6 O2∘Jg 7 O2∘Jw .u64∘JU qt #[vQ t.mask,vQ 1,vQ t.v,vQ t.r]) fun w47 g47=>(JD ([t.mask,1,t.v,t.r].map aR) 4 (fun _ _=>sO) qt (hr:=by exact fun E=>E.aN (i:=0) (n:=4) (size:=1) rfl rfl) (h1:=by exact zm _)) fun WK CU CV xX=>(Jp 1∘aF∘Jq) fun a Z E=>?_)
   have oM:((q++[ay (t.id-qh s.st.ts k),ay t.group,ay t.weight,ay t.cpu]).length)+4=((q++[ay (t.id-qh s.st.ts k),ay t.group,ay t.weight,ay t.cpu])++[t.mask,1,t.v,t.r]).length:=q0 rfl
   replace E:=E.aI (i:=4) (ys:=((q++[ay (t.id-qh s.st.ts k),ay t.group,ay t.weight,ay t.cpu])++[t.mask,1,t.v,t.r]).map aR) rfl oM (List.map_append.symm)
   rw [oM] at xX
   replace Z:=Z.sp 3 (.slice CU (((q++[ay (t.id-qh s.st.ts k),ay t.group,ay t.weight,ay t.cpu])++[t.mask,1,t.v,t.r]).length) CV) rfl (by rw [oM])
   refine Jb Z E ((JG∘JR∘Jf 0∘Jc O3∘Jo (vI (qh s.st.ts (k+1))) (by rw [zt,ht])∘Jp 1∘aT∘Jj∘JR∘bn 1∘Jp 1∘aQ∘Jq) fun a Z E=>?_)
   replace Z:=Z.sp 16 (.slice s.st.tA s.st.ts.length s.st.tc) rfl (by rw [hq1])
   exact ⟨_,om,k+1,(q++[ay (t.id-qh s.st.ts k),ay t.group,ay t.weight,ay t.cpu]++[t.mask,1,t.v,t.r]),CU,CV,by omega,by rw [zt,ht];omega,by rw [hq,qr,ht,NT fU,List.append_assoc,List.append_assoc],by (simp only [List.length_append,List.length_cons,List.length_nil];omega),xX,rfl,Z.sub kr,E.pk [4,5,6]⟩
  refine (JF∘aG∘JP∘Jp 1∘Jg 0 O0∘Jp 2∘Jo (vI (t.id-qh s.st.ts k)) (by exact Dp ⟨by omega,by omega⟩)∘Jg 1 O0∘Jg 2 O0∘Jg 3 O0∘JU yL #[vI (t.id-qh s.st.ts k),vI t.group,vI t.weight,vI t.cpu]) fun PL YZ=>(JK (h:=by exact fun E=>PG (some ⟨YZ,0,none⟩) 4 4 [t.id-qh s.st.ts k,t.group,t.weight,t.cpu] [ay (t.id-qh s.st.ts k),ay t.group,ay t.weight,ay t.cpu] _ rfl (E.aN (i:=0) (n:=4) (size:=1) rfl rfl) de rfl)) fun wu uO Ej nU=>fun a Z E=>?_
  have PN: [ay (t.id-qh s.st.ts k),ay t.group,ay t.weight,ay t.cpu].length=4:=rfl
  refine Jb Z E ((JD ([ay (t.id-qh s.st.ts k),ay t.group,ay t.weight,ay t.cpu].map aR) 3 (fun _ _=>xR) qt (hr:=by exact fun E=>E.rd (i:=0) rfl) (h1:=by exact zm _)) fun CS lJ c37 jF=>(Jp 1∘aF∘Jq) fun a Z E=>?_)
  have dW:q.length+([ay (t.id-qh s.st.ts k),ay t.group,ay t.weight,ay t.cpu].length)=(q++[ay (t.id-qh s.st.ts k),ay t.group,ay t.weight,ay t.cpu]).length:=q0 rfl
  replace E:=E.aI (i:=3) (ys:=(q++[ay (t.id-qh s.st.ts k),ay t.group,ay t.weight,ay t.cpu]).map aR) rfl dW (List.map_append.symm)
  rw [dW] at jF
  replace Z:=Z.sp 3 (.slice lJ ((q++[ay (t.id-qh s.st.ts k),ay t.group,ay t.weight,ay t.cpu]).length) c37) rfl (by rw [dW])
  refine Jb Z E ((JG∘JP∘Jp 1∘Jg 4 O2∘Jp 1∘Jg 6 O2∘Jg 7 O2∘Jw .u64∘JU qt #[vQ t.mask,vQ 0,vQ t.v,vQ t.r]) fun w47 g47=>(JD ([t.mask,0,t.v,t.r].map aR) 4 (fun _ _=>sO) qt (hr:=by exact fun E=>E.aN (i:=0) (n:=4) (size:=1) rfl rfl) (h1:=by exact zm _)) fun WK CU CV xX=>(Jp 1∘aF∘Jq) fun a Z E=>?_)
  have oM:((q++[ay (t.id-qh s.st.ts k),ay t.group,ay t.weight,ay t.cpu]).length)+4=((q++[ay (t.id-qh s.st.ts k),ay t.group,ay t.weight,ay t.cpu])++[t.mask,0,t.v,t.r]).length:=q0 rfl
  replace E:=E.aI (i:=4) (ys:=((q++[ay (t.id-qh s.st.ts k),ay t.group,ay t.weight,ay t.cpu])++[t.mask,0,t.v,t.r]).map aR) rfl oM (List.map_append.symm)
  rw [oM] at xX
  replace Z:=Z.sp 3 (.slice CU (((q++[ay (t.id-qh s.st.ts k),ay t.group,ay t.weight,ay t.cpu])++[t.mask,0,t.v,t.r]).length) CV) rfl (by rw [oM])
  refine Jb Z E ((JG∘JR∘Jf 0∘Jc O3∘Jo (vI (qh s.st.ts (k+1))) (by rw [zt,ht])∘Jp 1∘aT∘Jj∘JR∘bn 1∘Jp 1∘aQ∘Jq) fun a Z E=>?_)
  replace Z:=Z.sp 16 (.slice s.st.tA s.st.ts.length s.st.tc) rfl (by rw [hq1])
  exact ⟨_,om,k+1,(q++[ay (t.id-qh s.st.ts k),ay t.group,ay t.weight,ay t.cpu]++[t.mask,0,t.v,t.r]),CU,CV,by omega,by rw [zt,ht];omega,by rw [hq,qr,ht,NU fU,List.append_assoc,List.append_assoc],by (simp only [List.length_append,List.length_cons,List.length_nil];omega),xX,rfl,Z.sub kr,E.pk [4,5,6]⟩
 intro a Z E
 have mQ:=of_decide_eq_false gJ
 exact Jb Z E ((JF∘JX∘JG∘JP∘Jp 2∘aQ∘Jj∘JZ∘aH) fun E=>zd (by rw [hq,show k=s.st.ts.length by omega];try rfl) (E.own (i:=0) rfl) hco E.below)
theorem qxj (s:bH) (hok:s.st.aD.Ok) (hf:aX s.st) (w:World) (hx:cB w s.st) (hc:fK s.st) (hsh:ShAt s.st):
    Calls Tryz.prog 236 #[.agg s.cells] w (yV w (aK s 6)):=by
 have hrl:=hf.s
 obtain ⟨hc1,hc2,_,_⟩:=yS hsh.cfg
 refine (bZ Tryz.func236 41) ?_
 refine (JP∘JE) fun w1 g1=>(Jp 1∘Jr∘Jp 1∘Jq) fun a Z E=>?_
 replace E:=E.nil 41 1
 refine Jb Z E ((JG∘JQ∘JP∘Jf 1∘Jg 6 O1∘Jl∘Jp 1∘Jj∘JB) fun a Z E=>?_)
 refine qc (fun mS aS wS=>∃(g:Nat) (q:List Nat) (Ao:Option Addr) (co:Nat),(g≤s.st.rs.length)∧(q=eG g fun i=>zV i (s.st.rs.getD i Rw.zero).l)∧(q.length≤192*g)∧(q.length≤co)∧mS=s.st.rs.length-g∧Fr aS 41 [] [(12,vI g),(11,vI s.st.rs.length),(10,.slice s.st.sA s.st.rs.length s.st.sc),(3,.slice Ao q.length co),(2,vN)]∧Mem w wS [.row (.slice Ao q.length co) q.length (q.map aR) 41 1,.blk g1 s.cells 50]) (m:=s.st.rs.length-0) ⟨0,[],none,0,Nat.zero_le _,rfl,Nat.le_refl _,Nat.le_refl _,rfl,Z.sub kr,E.pk [0,1]⟩ ?_
 clear Z E;rintro mS a w_ ⟨g,q,Ao,co,hg,hq,kF,hco,rfl,Z,E⟩
 refine Jb Z E ((JP∘Jp 1∘Jj∘JQ) (Ju (fun dS=>?_) fun dS=>?_))
 ·
  intro a Z E
  have kU:=of_decide_eq_true dS
  have yu:g<s.st.rs.length:=by omega
  obtain ⟨y,hy⟩:∃z,s.st.rs.getD g Rw.zero=z:=⟨_,rfl⟩
  have jG:Rd w w.heap.size 3 y.A y.l.length (y.l.flatMap jy):=by rw [←hy];exact hx.row yu
  have hyl:(y.l.length:Int)=s.st.aB:=by rw [←hy];exact (FD yu (hsh.row g yu)).1
  have DT:∀z∈y.l,z.Ok:=by rw [←hy,←kC yu];exact hok.sp _ (qi [] (by rw [rO];exact yu))
  refine Jb Z E ((JT∘aG∘JQ∘JB∘JP∘Jp 1) fun a Z E=>?_)
  obtain ⟨dU,dV,hq1,_⟩:=Rd.qd hx.s (Nat.lt_of_le_of_lt (Nat.zero_le _) (show g<s.st.rs.length from by omega)) de
  have aZ:=hx.s;rw [hq1] at aZ
  replace Z:=Z.sp 10 (.slice (some ⟨dU,dV,none⟩) s.st.rs.length s.st.sc) rfl (by rw [hq1];try rfl)
  refine Jb Z E ((Jy (h:=by exact Yl.ix dU dV g 1 rfl rfl rfl)∘Jy (v:= .slice ((s.st.rs.getD g Rw.zero).A) ((s.st.rs.getD g Rw.zero).l.length) ((s.st.rs.getD g Rw.zero).c)) (h:=by exact Yl.o1 aZ g Rw.zero yu rfl rfl)∘Jo (.slice y.A y.l.length y.c) (by rw [hy])∘Jp 2∘Jr∘Jp 1∘Jl∘Jp 1∘Jj∘JB) fun a Z E=>?_)
  refine qc (fun mS aS wS=>∃(c:Nat) (q:List Nat) (Ao:Option Addr) (co:Nat),(c≤y.l.length)∧(q=(eG g fun i=>zV i (s.st.rs.getD i Rw.zero).l)++eG c fun i=>yU g (y.l.getD i Sp.zero))∧(q.length≤192*g+3*c)∧(q.length≤co)∧mS=y.l.length-c∧Fr aS 41 [] [(19,vI c),(18,vI y.l.length),(17,.slice y.A y.l.length y.c),(5,.slice y.A y.l.length y.c),(4,vI g),(10,.slice (some ⟨dU,dV,none⟩) s.st.rs.length s.st.sc),(13,.bool true),(12,vI g),(11,vI s.st.rs.length),(3,.slice Ao q.length co),(2,vN)]∧Mem w wS [.row (.slice Ao q.length co) q.length (q.map aR) 41 1,.blk g1 s.cells 50]) (m:=y.l.length-0) ⟨0,q,Ao,co,Nat.zero_le _,by rw [hq,qc2,List.append_nil],by omega,hco,rfl,Z.sub kr,E.pk [0,1]⟩ ?_
  clear Z E;rintro mS a w_ ⟨c,q,Ao,co,hc,hq,kF,hco,rfl,Z,E⟩
  refine Jb Z E ((JP∘Jp 1∘Jj∘JQ) (Ju (fun fB=>?_) fun fB=>?_))
  ·
   intro a Z E
   have iA:=of_decide_eq_true fB
   have yw:c<y.l.length:=by omega
   obtain ⟨z,hz⟩:∃q,(y.l.getD c Sp.zero)=q:=⟨_,rfl⟩
   have yc:=DT _ (qi Sp.zero yw)
   rw [hz] at yc
   have XC:=yc.r
   refine Jb Z E ((JT∘aG∘JQ∘JB∘JP) fun a Z E=>?_)
   obtain ⟨mW,mX,hq2,_⟩:=Rd.qd jG (Nat.lt_of_le_of_lt (Nat.zero_le _) (show c<y.l.length from by omega)) de
   have iq:=jG;rw [hq2] at iq
   replace Z:=Z.sp 17 (.slice (some ⟨mW,mX,none⟩) y.l.length y.c) rfl (by rw [hq2];try rfl)
   refine Jb Z E ((Jy (h:=by exact Yl.ix mW mX c 3 rfl rfl rfl)∘Jy (v:= .agg ((y.l.getD c Sp.zero).cells)) (h:=by exact Yl.qf rfl rfl kD rfl (fun _ h=>(h.old iq).qm vF ((getD_at Sp.zero yw))))∘Jo (.agg z.cells) (by rw [hz])∘JA #[vQ 0,vW 0,vQ 0]) fun w7 g7=>(JV kD bg (h1:=by exact Xe z)) fun Y0=>(aT∘Jj∘JQ∘JP∘Jp 2∘aQ∘Jj) (Ji (fun hd24=>?_) fun hd24=>?_))
   ·
    refine (JT∘JR∘Jp 1∘Jg 0 O0∘Jg 1 O0∘Jw .u64∘JU qt #[vQ z.v,vQ z.r]) fun w31 g31=>(JD ([z.v,z.r].map aR) 2 (fun _ _=>gH) qt (hr:=by exact fun E=>E.aN (i:=0) (n:=2) (size:=1) rfl rfl) (h1:=by exact zm _)) fun w32 pR c32 hc32=>(Jp 1∘aF∘Jq) fun a Z E=>?_
    have Bg:q.length+2=(q++[z.v,z.r]).length:=q0 rfl
    replace E:=E.aI (i:=2) (ys:=(q++[z.v,z.r]).map aR) rfl Bg (List.map_append.symm)
    rw [Bg] at hc32
    replace Z:=Z.sp 3 (.slice pR ((q++[z.v,z.r]).length) c32) rfl (by rw [Bg])
    refine Jb Z E ((JG∘JR∘Jp 1∘Jg 2 O1∘JU qt #[vQ z.floor]) fun Ej PO=>(JD ([z.floor].map aR) 3 (fun _ _=>xR) qt (hr:=by exact fun E=>E.aN (i:=0) (n:=1) (size:=1) rfl rfl) (h1:=by exact zm _)) fun CS lJ c37 jF=>(Jp 1∘eZ∘Jq) fun a Z E=>?_)
    have dW:((q++[z.v,z.r]).length)+1=((q++[z.v,z.r])++[z.floor]).length:=q0 rfl
    replace E:=E.aI (i:=3) (ys:=((q++[z.v,z.r])++[z.floor]).map aR) rfl dW (List.map_append.symm)
    rw [dW] at jF
    replace Z:=Z.sp 3 (.slice lJ (((q++[z.v,z.r])++[z.floor]).length) c37) rfl (by rw [dW])
    refine Jb Z E ((JG∘JR∘bn 1∘Jp 1∘aQ∘Jq) fun a Z E=>?_)
    replace Z:=Z.sp 17 (.slice y.A y.l.length y.c) rfl (by rw [hq2])
    exact ⟨_,om,c+1,((q++[z.v,z.r])++[z.floor]),lJ,c37,by omega,by rw [hq,qr,hz,Xv om];simp only [List.append_assoc],by (simp only [List.length_append,List.length_cons,List.length_nil];omega),jF,rfl,Z.sub kr,E.pk [3,4]⟩
   refine (JF∘aG∘JR∘Jp 1∘Jg 2 O0∘JU qt #[vQ z.floor]) fun Ej PO=>(JD ([z.floor].map aR) 2 (fun _ _=>gH) qt (hr:=by exact fun E=>E.aN (i:=0) (n:=1) (size:=1) rfl rfl) (h1:=by exact zm _)) fun CS lJ c37 jF=>(Jp 1∘eZ∘Jq) fun a Z E=>?_
   have dW:q.length+1=(q++[z.floor]).length:=q0 rfl
   replace E:=E.aI (i:=2) (ys:=(q++[z.floor]).map aR) rfl dW (List.map_append.symm)
   rw [dW] at jF
   replace Z:=Z.sp 3 (.slice lJ ((q++[z.floor]).length) c37) rfl (by rw [dW])
   refine Jb Z E ((JG∘JR∘bn 1∘Jp 1∘aQ∘Jq) fun a Z E=>?_)
   replace Z:=Z.sp 17 (.slice y.A y.l.length y.c) rfl (by rw [hq2])
   exact ⟨_,om,c+1,(q++[z.floor]),lJ,c37,by omega,by rw [hq,qr,hz,Xw om,List.append_assoc],by (simp only [List.length_append,List.length_cons,List.length_nil];omega),jF,rfl,Z.sub kr,E.pk [2,3]⟩
  intro a Z E
  have iA:=of_decide_eq_false fB
  refine Jb Z E ((JF∘JX∘JG∘JR∘bn 1∘Jp 1∘aQ∘Jq) fun a Z E=>?_)
  replace Z:=Z.sp 10 (.slice s.st.sA s.st.rs.length s.st.sc) rfl (by rw [hq1])
  exact ⟨_,om,g+1,q,Ao,co,by omega,by rw [hq,show c=y.l.length by omega,qr,hy];rfl,by omega,hco,rfl,Z.sub kr,E.pk [0,1]⟩
 intro a Z E
 have kU:=of_decide_eq_false dS
 exact Jb Z E ((JF∘JX∘JG∘JP∘Jp 2∘aQ∘Jj∘JZ∘aH) fun E=>zd (by rw [hq,show g=s.st.rs.length by omega];try rfl) (E.own (i:=0) rfl) hco E.below)
end Go.Proofs.YtekiimhdnigmcaaGreatDoor
