/- Parts. -/
import Derived.Test.YtekiimhdnigmcaaGreatDoorQsSep10
import Derived.MapKept
import Derived.IntWalk
import Derived.Maps.RangeRun
import Derived.Test.YtekiimhdnigmcaaGreatDoorQsSep8
import Derived.Test.YtekiimhdnigmcaaGreatDoorQsRnd
import Derived.RangeFuncLeaves
import Derived.Test.YtekiimhdnigmcaaGreatDoorQsSep5
import Derived.Test.YtekiimhdnigmcaaGreatDoorQsConv
import Derived.Test.YtekiimhdnigmcaaGreatDoorQsSep9
import Derived.Lib.AppendZeros
import Derived.Test.YtekiimhdnigmcaaGreatDoorQsVarint
import Derived.Test.YtekiimhdnigmcaaGreatDoorQsCrcP
import Derived.Test.YtekiimhdnigmcaaGreatDoorQsNum
import Derived.ChangeKeysEq
import Derived.Laws.StructEq
import Derived.Laws.Slices
import Derived.Test.YtekiimhdnigmcaaGreatDoorQsSep7
import Derived.Test.YtekiimhdnigmcaaGreatDoorQsSta
import Derived.Test.YtekiimhdnigmcaaGreatDoorQsSep6
import Derived.Deep.AppendSrc
import Derived.Test.YtekiimhdnigmcaaGreatDoorQsCodV
import Derived.Test.YtekiimhdnigmcaaGreatDoorQsOneWay
import Derived.Test.YtekiimhdnigmcaaGreatDoorQsBack
import Derived.Test.YtekiimhdnigmcaaGreatDoorQsDoor
import Derived.Test.YtekiimhdnigmcaaGreatDoorRows
set_option linter.all false
set_option maxRecDepth 100000
set_option maxHeartbeats 1000000
namespace Go.Proofs.YtekiimhdnigmcaaGreatDoor
open Go.RowKit Go.MapKept
section
variable {P:Program} {Q:Exit→Act→World→Prop} {a:Act} {W w:World} {n d:Nat} {D:List Deferred} {σ:List (Nat×Value)} {o:Oper} {K:Act→World→Prop} {fs:List Fact} {S:World→Prop}
theorem Mem.fU (h:Mem W w fs) {i g:Nat} {ob:Obj} (hi:fs[i]?=some (.obj g ob)):w.heap[g]?=some ob:=(h.holds _ (List.mem_of_getElem? hi)).2
theorem Mem.setObj (h:Mem W w fs) {i g:Nat} {ob:Obj} (hi:fs[i]?=some (.obj g ob)) (D9:Obj):Mem W {w with heap:=w.heap.setIfInBounds g D9} (fs.set i (.obj g D9)):=by
 have hb:=h.holds _ (List.mem_of_getElem? hi)
 have hlt:=kQ hb.2
 have hother:∀k,k≠g→(w.heap.setIfInBounds g D9)[k]?=w.heap[k]?:=fun k hk=>Array.getElem?_setIfInBounds_ne (Ne.symm hk)
 refine h.turn hi ⟨h.below.os,h.below.tape,h.below.output,by simpa using h.below.size,fun k hk=>?_⟩ (fun k _ hne=>hother k (fun e=>hne (by rw [e];rfl))) ⟨hb.1,?_⟩ (fun g' hg'=> .inl hg')
 ·have:=hb.1
  exact (hother k om).trans (h.below.block k hk)
 ·show (w.heap.setIfInBounds g D9)[g]?=some D9
  rw [Array.getElem?_setIfInBounds_self]
  simp [hlt]
theorem qv8 (Z:Fr a n D σ) (HM:Mem W w fs) {t:TypeId} (hop:o.op= .makeMap t none) (hd:o.dst=some d) (hdn:d<n)
  (k:∀a' w' g,Fr a' n D ((d,.map (some g))::σ)→Mem W w' (.obj g (.map #[] 0)::fs)→K a' w'):o.wp P a w K Q:=by
 have e1:(execOp a.eval o).run P w= .ok (.value (.map (some w.heap.size))) (w.alloc (.map #[] 0)):=by
  unfold execOp
  simp only [hop,Sem.run_bind]
  rfl
 unfold Oper.wp
 rw [e1,Oper.upon_value,hd]
 exact k _ _ _ (Z.put hdn _) (HM.jw _)
theorem Sb (Z:Fr a n D σ) (HM:Mem W w fs) {t kt et:TypeId} {kd:TypeDesc} {m x y:Operand} {i g clock:Nat} {es:Array MapEntry} {key val:Value} (hop:o.op= .mapUpdate t m x y∨o.op= .insert t m x y) (hd:o.dst=none) (ht:P.underlying t=some (.map kt et)) (hk:P.underlying kt=some kd)
  (hm:look σ m=some (.map (some g))) (hx:look σ x=some key) (hy:look σ y=some val) (hi:fs[i]?=some (.obj g (.map es clock))) (hkey:IsKey kd key) (hf:Instr.findNow kd key es.toList 0=some none)
  (k:∀w',Mem W w' (fs.set i (.obj g (.map (es.push {key,val,born:=clock}) (clock+1))))→K a w'):o.wp P a w K Q:=by
 have hb:=HM.fU hi
 have e1:(Instr.mapUpdate t (.map (some g)) key val).run P w= .ok () {w with heap:=w.heap.setIfInBounds g (.map (es.push {key,val,born:=clock}) (clock+1))}:=by
  unfold Instr.mapUpdate
  simp only [Sem.run_bind,run_underlying ht,Result.andThen_ok,MapKept.run_getObj_map hb,run_checkKey hk hkey,run_findKey hk hf,MapKept.run_setObj_map _ hb]
 unfold Oper.wp execOp
 rcases hop with hop|hop<;>simp only [hop,Z.eval hm,Z.eval hx,Z.eval hy,Sem.run_bind,e1,Result.andThen_ok,Sem.run_pure,Oper.upon_skip,hd]
 ·exact k _ (HM.setObj hi _)
 ·exact k _ (HM.setObj hi _)
theorem Yl.Sc {t kt et:TypeId} {kd:TypeDesc} {m x:Operand} {g clock j:Nat} {es:Array MapEntry} {key v:Value} (hop:o.op= .lookup t m x false) (ht:P.underlying t=some (.map kt et)) (hk:P.underlying kt=some kd) (hm:look σ m=some (.map (some g))) (hx:look σ x=some key) (hb:∀w,S w→w.heap[g]?=some (.map es clock)) (hkey:IsKey kd key) (hf:Instr.findNow kd key es.toList 0=some (some (j,v))):
  Yl P S σ o v:=fun a n D Z w hS=>by
 have e1:(Instr.lookup t (.map (some g)) key false).run P w= .ok v w:=by
  unfold Instr.lookup
  simp only [Sem.run_bind,run_underlying ht,Result.andThen_ok,MapKept.run_getObj_map (hb w hS),Sem.run_pure,run_checkKey hk hkey,run_findKey hk hf]
  rfl
 unfold execOp
 simp only [hop,Z.eval hm,Z.eval hx,Sem.run_bind,e1,Result.andThen_ok,Sem.run_pure]
theorem Yl.qvl {t kt et:TypeId} {kd:TypeDesc} {m x:Operand} {g clock:Nat} {es:Array MapEntry} {key z:Value} (hop:o.op= .lookup t m x false) (ht:P.underlying t=some (.map kt et)) (hk:P.underlying kt=some kd) (hm:look σ m=some (.map (some g))) (hx:look σ x=some key) (hb:∀w,S w→w.heap[g]?=some (.map es clock)) (hkey:IsKey kd key) (hf:Instr.findNow kd key es.toList 0=some none) (hz:(P.info? et).bind (·.zero)=some z):
  Yl P S σ o z:=fun a n D Z w hS=>by
 obtain ⟨inf,hi,hiz⟩:=Option.bind_eq_some_iff.1 hz
 have e1:(Instr.lookup t (.map (some g)) key false).run P w= .ok z w:=by
  unfold Instr.lookup
  simp only [Sem.run_bind,run_underlying ht,Result.andThen_ok,MapKept.run_getObj_map (hb w hS),Sem.run_pure,run_checkKey hk hkey,run_findKey hk hf,zeroValue,typeInfo,program,Sem.run,hi,hiz]
  rfl
 unfold execOp
 simp only [hop,Z.eval hm,Z.eval hx,Sem.run_bind,e1,Result.andThen_ok,Sem.run_pure]
theorem Yl.makeFunc {fn:Fn} {xs ys:Array Operand} {fst caps:List Value} (hop:o.op= .makeFunc fn xs ys) (hx:looks σ xs.toList=some fst) (hy:looks σ ys.toList=some caps):Yl P S σ o (.func fn fst.toArray caps.toArray):=fun a n D Z w hS=>by
 have e1:xs.map a.eval=fst.toArray:=by
  have:=Cb Z hx
  rw [←this,←Array.toList_map,Array.toArray_toList]
 have e2:ys.map a.eval=caps.toArray:=by
  have:=Cb Z hy
  rw [←this,←Array.toList_map,Array.toArray_toList]
 unfold execOp
 simp only [hop,Instr.makeFunc,Sem.run_bind,Sem.run_pure,Result.andThen_ok]
 show Result.ok (Next.value (.func fn (Array.map a.eval xs) (Array.map a.eval ys))) w=_
 rw [e1,e2]
theorem qX (Z:Fr a n D σ) {fo:Operand} {f:FuncId} {xs:Array Operand} {ts:Array TypeId} {vs fst caps:List Value} {R:Ending→World→Prop} (hop:o.op= .call {callee:= .value fo,args:=xs,argTypes:=ts}) (hfo:look σ fo=some (.func (.func f) fst.toArray caps.toArray)) (hv:looks σ xs.toList=some vs) (hf:callable P f=true) (hd:o.dst=some d) (hdn:d<n)
  (hC:Calls P f (fst++vs++caps).toArray w R) (k:∀e w',R e w'→∃v,e= .returned v∧∀a',Fr a' n D ((d,v)::σ)→K a' w'):o.wp P a w K Q:=by
 have e1:xs.map a.eval=vs.toArray:=by
  have:=Cb Z hv
  rw [←this,←Array.toList_map,Array.toArray_toList]
 unfold Oper.wp execOp
 simp only [hop,resolve,Z.eval hfo,Deferred.ofValue,invoke,Sem.run_bind,Sem.run_pure,Result.andThen_ok]
 have e3:fst.toArray++Array.map a.eval xs++caps.toArray=(fst++vs++caps).toArray:=by simp [e1]
 show Oper.upon P o a K Q (((callFunc f (fst.toArray++Array.map a.eval xs++caps.toArray)).run P w))
 rw [e3,LQ hf,Oper.upon_enter]
 refine hC.mono fun e w' he=>?_
 obtain ⟨v,rfl,h2⟩:=k e w' he
 show K (a.put o.dst v) w'
 rw [hd]
 exact h2 _ (Z.put hdn v)
end
end Go.Proofs.YtekiimhdnigmcaaGreatDoor
namespace Go.Proofs.YtekiimhdnigmcaaGreatDoor
open Go.RowKit
def iW:Go.IntKind→Nat
 | .i8=>127| .i16=>32767| .i32=>2147483647| .i64=>9223372036854775807
 | .u8=>255| .u16=>65535| .u32=>4294967295| .u64=>18446744073709551615
theorem uE (k:Go.IntKind) {m:Nat} (h:m≤iW k):Go.IntKind.wrap k (m:Int)=(m:Int):=by
 cases k<;>simp only [iW] at h
 ·exact IntWalk.i8_in _ om
 ·exact IntWalk.i16_in _ om
 ·exact IntWalk.i32_in _ om
 ·exact IntWalk.i64_in _ om
 ·exact IntWalk.u8_in _ om
 ·exact IntWalk.u16_in _ om
 ·exact IntWalk.u32_in _ om
 ·exact IntWalk.u64_in _ om
theorem zq {x:Int} {m:Nat} (h:x=(m:Int)) (hb:m≤9223372036854775807):Value.int .i64 (Go.IntKind.i64.wrap x)= .int .i64 (m:Int):=by subst h;rw [uE .i64 hb]
theorem qY {x:Int} {m:Nat} (h:x=(m:Int)) (hb:m≤18446744073709551615):Value.int .u64 (Go.IntKind.u64.wrap x)= .int .u64 (m:Int):=by subst h;rw [uE .u64 hb]
theorem Ci {x:Int} {m:Nat} (h:x=(m:Int)) (hb:m≤4294967295):Value.int .u32 (Go.IntKind.u32.wrap x)= .int .u32 (m:Int):=by subst h;rw [uE .u32 hb]
theorem q58 {x:Int} {m:Nat} (h:x=(m:Int)) (hb:m≤255):Value.int .u8 (Go.IntKind.u8.wrap x)= .int .u8 (m:Int):=by subst h;rw [uE .u8 hb]
theorem kR (m:Nat):Value.int .u8 (Go.IntKind.u8.wrap (m:Int))= .int .u8 ((m%256:Nat):Int):=by
 rw [Go.IntKind.wrap_u8];simp
theorem nI (k:Go.IntKind) (m n:Nat):Value.int k (Int.tmod (m:Int) (n:Int))= .int k ((m%n:Nat):Int):=by rw [Int.tmod_eq_emod_of_nonneg om];rfl
theorem qH (k:Go.IntKind) {m:Nat} (n:Nat) (h:m≤iW k):Value.int k (Go.IntKind.wrap k (Int.tdiv (m:Int) (n:Int)))= .int k ((m/n:Nat):Int):=by
 rw [Int.tdiv_eq_ediv_of_nonneg om,show ((m:Int)/ (n:Int))=((m/n:Nat):Int) from rfl,uE k (Nat.le_trans (Nat.div_le_self _ _) h)]
theorem yI (k:Go.IntKind) (m:Nat) {j:Nat} {p:Int} {q:Nat} (hp:p=(j:Int)) (hq:2^ (min p.toNat k.bits)=q):Value.int k (Int.fdiv (m:Int) (2^ (min p.toNat k.bits)))= .int k ((m/q:Nat):Int):=by
 subst hp;subst hq
 congr 1
 rw [Int.fdiv_eq_ediv_of_nonneg _ (by exact_mod_cast Nat.zero_le _)]
 norm_cast
theorem Cj (w:Nat) {m:Nat} (h:m<2^w):(BitVec.ofInt w (m:Int)).toNat=m:=by
 rw [BitVec.toNat_ofInt]
 have:((m:Int)% ((2^w:Nat):Int))=(m:Int):=Int.emod_eq_of_lt om (by exact_mod_cast h)
 rw [this];rfl
theorem q4d (k:Go.IntKind) {m n:Nat} (hm:m<2^k.bits) (hn:n<2^k.bits) (hr:m&&&n≤iW k):Value.int k (Go.IntKind.wrap k (BitVec.ofInt k.bits (m:Int)&&&BitVec.ofInt k.bits (n:Int)).toNat)= .int k ((m&&&n:Nat):Int):=by
 rw [BitVec.toNat_and,Cj _ hm,Cj _ hn,uE k hr]
theorem Sd (k:Go.IntKind) {m n:Nat} (hm:m<2^k.bits) (hn:n<2^k.bits) (hr:m|||n≤iW k):Value.int k (Go.IntKind.wrap k (BitVec.ofInt k.bits (m:Int)|||BitVec.ofInt k.bits (n:Int)).toNat)= .int k ((m|||n:Nat):Int):=by
 rw [BitVec.toNat_or,Cj _ hm,Cj _ hn,uE k hr]
theorem Sg (k:Go.IntKind) {m n:Nat} (hm:m<2^k.bits) (hn:n<2^k.bits) (hr:m^^^n≤iW k):Value.int k (Go.IntKind.wrap k (BitVec.ofInt k.bits (m:Int)^^^BitVec.ofInt k.bits (n:Int)).toNat)= .int k ((m^^^n:Nat):Int):=by
 rw [BitVec.toNat_xor,Cj _ hm,Cj _ hn,uE k hr]
theorem q0o (k:Go.IntKind) {m j n:Nat} (hn:n=2^j-1) (hj:2^j-1≤iW k) (hm:m<2^k.bits) (hn2:n<2^k.bits):Value.int k (Go.IntKind.wrap k (BitVec.ofInt k.bits (m:Int)&&&BitVec.ofInt k.bits (n:Int)).toNat)= .int k ((m%2^j:Nat):Int):=by
 subst hn
 have h:=Nat.and_two_pow_sub_one_eq_mod m j
 rw [q4d k hm hn2 (by rw [h];have:=Nat.mod_lt m (Nat.two_pow_pos j);omega),h]
theorem q59 {m n:Nat} (hm:m<256) (hn:n<256):Value.int .u8 (Go.IntKind.u8.wrap (BitVec.ofInt Go.IntKind.u8.bits (m:Int)^^^BitVec.ofInt Go.IntKind.u8.bits (n:Int)).toNat)= .int .u8 ((m^^^n:Nat):Int):=
 Sg .u8 (by show m<256;omega) (by show n<256;omega) (by have h:m^^^n<256:=Nat.xor_lt_two_pow (n:=8) (by simpa using hm) (by simpa using hn);show _≤255;omega)
theorem q6a {m n:Nat} (hm:m<4294967296) (hn:n<4294967296):Value.int .u32 (Go.IntKind.u32.wrap (BitVec.ofInt Go.IntKind.u32.bits (m:Int)|||BitVec.ofInt Go.IntKind.u32.bits (n:Int)).toNat)= .int .u32 ((m|||n:Nat):Int):=
 Sd .u32 (by show m<4294967296;omega) (by show n<4294967296;omega) (by have h:m|||n<4294967296:=Nat.or_lt_two_pow (n:=32) (by simpa using hm) (by simpa using hn);show _≤4294967295;omega)
theorem Ea {m n:Nat} (hm:m<4294967296) (hn:n<4294967296):Value.int .u32 (Go.IntKind.u32.wrap (BitVec.ofInt Go.IntKind.u32.bits (m:Int)^^^BitVec.ofInt Go.IntKind.u32.bits (n:Int)).toNat)= .int .u32 ((m^^^n:Nat):Int):=
 Sg .u32 (by show m<4294967296;omega) (by show n<4294967296;omega) (by have h:m^^^n<4294967296:=Nat.xor_lt_two_pow (n:=32) (by simpa using hm) (by simpa using hn);show _≤4294967295;omega)
theorem Si {m j n:Nat} (hn:n=2^j-1) (hn2:n<4294967296) (hm:m<4294967296):Value.int .u32 (Go.IntKind.u32.wrap (BitVec.ofInt Go.IntKind.u32.bits (m:Int)&&&BitVec.ofInt Go.IntKind.u32.bits (n:Int)).toNat)= .int .u32 ((m%2^j:Nat):Int):=
 q0o .u32 hn (by rw [←hn];show n≤4294967295;omega) (by show m<4294967296;omega) (by show n<4294967296;omega)
theorem q6b {m n:Nat} (hm:m<9223372036854775808) (hn:n<9223372036854775808):Value.int .i64 (Go.IntKind.i64.wrap (BitVec.ofInt Go.IntKind.i64.bits (m:Int)|||BitVec.ofInt Go.IntKind.i64.bits (n:Int)).toNat)= .int .i64 ((m|||n:Nat):Int):=
 Sd .i64 (by show m<18446744073709551616;omega) (by show n<18446744073709551616;omega) (by have h:m|||n<9223372036854775808:=Nat.or_lt_two_pow (n:=63) (by simpa using hm) (by simpa using hn);show _≤9223372036854775807;omega)
theorem getD_at {α:Type} {l:List α} {k:Nat} (d:α) (h:k<l.length):l[k]?=some (l.getD k d):=by
 rw [List.getD_eq_getElem?_getD,List.getElem?_eq_getElem h];rfl
theorem q7 {α:Type} {l:List α} {k:Nat} (d:α) (h:k<l.length):l.getD k d∈l:=List.mem_of_getElem? (getD_at d h)
theorem getD_lt {l:List Nat} {m:Nat} (hl:∀b∈l,b<m) {k:Nat} (h:k<l.length):l.getD k 0<m:=hl _ (q7 0 h)
end Go.Proofs.YtekiimhdnigmcaaGreatDoor
namespace Go.Proofs.YtekiimhdnigmcaaGreatDoor
open Go.RowKit Go.MapKept
def FH (p:Nat×Nat) (b:Nat):MapEntry:={key:= .int .i64 (p.1:Int),val:= .int .i64 (p.2:Int),born:=b}
def xL:Nat→List (Nat×Nat)→List MapEntry
 |_,[]=>[]
 |b,p::l=>FH p b::xL (b+1) l
def mapA (l:List (Nat×Nat)):Array MapEntry:=(xL 0 l).toArray
section
variable {P:Program} {Q:Exit→Act→World→Prop} {a:Act} {W w:World} {n d:Nat} {D:List Deferred} {σ:List (Nat×Value)} {o:Oper} {K:Act→World→Prop} {fs:List Fact} {S:World→Prop}
end
structure Ky (l:List (Nat×Nat)) (seen:Array Nat) (c:Nat):Prop where
 odd:(c:Int)%2=seenSum (mapA l).toList seen%2
 few:c+(leftOf (mapA l) seen).size≤l.length
end Go.Proofs.YtekiimhdnigmcaaGreatDoor
namespace Go.Proofs.YtekiimhdnigmcaaGreatDoor
open Go.RowKit
section
variable {W w w':World} {fs gs fs':List Fact}
theorem Mem.perm (h:Mem W w fs) (hp:fs.Perm fs'):Mem W w fs':=
 ⟨h.below,fun f hf=>h.holds f (hp.mem_iff.2 hf),(hp.pairwise_iff (fun {_ _} hab=>hab.symm)).1 h.apart⟩
theorem Mem.rz (h:Mem W w fs) (hs:fs'.Sublist fs):Mem W w fs':=
 ⟨h.below,fun f hf=>h.holds f (hs.subset hf),h.apart.sublist hs⟩
theorem Fact.holds.base {b b':Nat} {f:Fact} (h:f.holds b w) (hb:b'≤b):f.holds b' w:=by
 cases f with
 |blk g cs t=>exact ⟨Nat.le_trans hb h.1,h.2⟩
 |obj g o=>exact ⟨Nat.le_trans hb h.1,h.2⟩
 |row v n xs e size=>exact Ho h hb
theorem Mem.join (h:Mem W w fs) (k:Mem w w' gs):Mem W w' (gs++fs):=by
 have hf:=h.call k.below
 refine ⟨hf.below,?_,?_⟩
 ·intro f hm
  rcases List.mem_append.1 hm with hm|hm
  ·exact (k.holds f hm).base h.size
  ·exact hf.holds f hm
 ·refine List.pairwise_append.2 ⟨k.apart,h.apart,?_⟩
  intro f hfm g hgm x hx hgx
  have h1:=((k.holds f hfm).lt hx).1
  have h2:=((h.holds g hgm).lt hgx).2
  omega
theorem Mem.q7k {A:Option Addr} {n c:Nat} {xs:List Value} {e:TypeId} {size:Nat} (h:Mem W w fs) (hf:Fact.row (.slice A n c) n xs e size∈fs):Rd w w.heap.size size A n xs:=by
 obtain ⟨i,hi⟩:=List.mem_iff_getElem?.1 hf
 exact h.rd hi
theorem Mem.oK {W w:World} {fs:List Fact} (h:Mem W w fs) {i g:Nat} {cs ds:Array Value} {t:TypeId} (hi:fs[i]?=some (.blk g cs t)) (he:cs=ds):Mem W w (fs.set i (.blk g ds t)):=by
 subst he
 obtain ⟨hl,h2⟩:=List.getElem?_eq_some_iff.1 hi
 rw [←h2,List.set_getElem_self]
 exact h
structure Own where
 A:Option Addr
 n:Nat
 c:Nat
 xs:List Value
def Own.fact (e:TypeId) (size:Nat) (p:Own):Fact:= .row (.slice p.A p.n p.c) p.n p.xs e size
def wV (e:TypeId) (size:Nat) (ps:List Own):List Fact:=ps.map (Own.fact e size)
end
section
variable {P:Program} {ops:Array Oper} {Q:Exit→Act→World→Prop} {a:Act} {w:World}
end
section
variable {P:Program} {ops:Array Oper} {Q:Exit→Act→World→Prop} {a:Act} {W w:World} {l n N i d:Nat} {D:List Deferred} {σ σ':List (Nat×Value)} {K:Act→World→Prop} {fs:List Fact} {o:Oper}
theorem L8 (hQ:¬LetsOut Q):∀(os:List Oper),(∀o∈os,∀c,o.op≠ .defer c)→∀a w,wpList P ops Q os a w→wpListIn (Fence.wide.inRound l) 0 P ops Q os a w
 |[],_,_,_,h=>h
 | o :: os, hos, a, w, h => by
  unfold wpList at h
  unfold wpListIn
  split at h
  ·rename_i hw
   rw [if_pos hw]
   exact RO (hos o List.mem_cons_self) hQ (fun a w h=>L8 hQ os (fun o ho=>hos o (List.mem_cons_of_mem _ ho)) a w h) h
  ·rename_i hw
   rw [if_neg hw]
   exact ⟨fun _ _=>trivial,L8 hQ os (fun o ho=>hos o (List.mem_cons_of_mem _ ho)) _ _ h⟩
theorem qp {id:Nat} (h:qh P ops Q 0 a w) (hd:Ic ops=true:=by kernel_rfl) (hQ:¬LetsOut Q:=by intro ⟨_,_,h⟩;exact h):(Code.region id ops false).wpIn (Fence.wide.inRound l) 0 P Q a w:=
 wpIn_region_list (L8 hQ _ (fun o ho=>by
  obtain ⟨j,hj⟩:=List.mem_iff_getElem?.1 ho
  exact RN hd (i:=j) (by simpa using hj)) a w (by simpa [qh] using h))
theorem SL {id:Nat} (HM:Mem W w fs) (fs':List Fact) (m:Nat) (is ex:List Nat) (h:Mem W w.drew fs→Mem W w.drew fs'→qk P .any ops Q (fun wS=>Mem W wS fs') ex ops.size (Array.replicate ops.size false) a w.drew)
  (hm:P.follows .mixedOrders=true:=by kernel_rfl) (hn:is.Nodup:=by decide) (hlt:(is.all (· <m))=true:=by decide) (he:picks fs is++fs.drop m=fs':=by rfl) (hd:Ic ops=true:=by kernel_rfl) (hQ:¬LetsOut Q:=by intro ⟨_,_,h⟩;exact h):(Code.region id ops true).wpIn (Fence.wide.inRound l) 0 P Q a w:=
 wpIn_region_any hm (Ie hd hQ _ _ _ _ (LD _ _ _ _ (h HM.drew (HM.drew.R9 m is hn hlt he))))
theorem Ej {F:Fence} {c:Operand} {x y:Code} (Z:Fr a n D σ) (hc:look σ c=some (.bool true)) (h:x.wpIn F 0 P Q a w):(Code.cond c x y).wpIn F 0 P Q a w:=wpIn_cond_true (Z.eval hc) h
theorem El {F:Fence} {c:Operand} {x y:Code} (Z:Fr a n D σ) (hc:look σ c=some (.bool false)) (h:y.wpIn F 0 P Q a w):(Code.cond c x y).wpIn F 0 P Q a w:=wpIn_cond_false (Z.eval hc) h
theorem qwh {F:Fence} {x y:Code} (R:Act→World→Prop) (h:x.wpIn F 0 P (Exit.then R Q) a w) (k:∀a w,R a w→y.wpIn F 0 P Q a w):(Code.seq x y).wpIn F 0 P Q a w:=
 wpIn_seq (wpIn_mono h (fun e a w hq=>by cases e<;>first|exact k _ _ hq|exact hq))
def rA (fn:FuncId) (tmps:Array Value) (ps:Array Tmp) (assign body:Code) (D:Nat) (st:LoopState) (pe:Option Code):Loop:={state:=st,pending:=pe,fn,tmps,params:=ps,assign,body,defers:=D}
def roundEnd (W:World) (l:Nat) (rec:LoopState→Option Code→Loop) (R:Ending→World→Prop):Exit→Act→World→Prop
 | .normal,_,w=>∃F,Mem W w (.obj l (.loop (rec .busy none))::F)∧∀w',Mem W w' (.obj l (.loop (rec .ready none))::F)→R (.returned (.bool true)) w'
 | .ret,_,w=>∃F,Mem W w (.obj l (.loop (rec .busy none))::F)∧∀w',Mem W w' (.obj l (.loop (rec .done (some .ret)))::F)→R (.returned (.bool false)) w'
 | .exit id,_,w=>∃F,Mem W w (.obj l (.loop (rec .busy none))::F)∧∀w',Mem W w' (.obj l (.loop (rec .done (some (.exit id))))::F)→R (.returned (.bool false)) w'
 |_,_,_=>False
theorem qqh {fn:FuncId} {tmps:Array Value} {ps:Array Tmp} {assign body:Code} {B:Nat} {args:Array Value} {F:List Fact} {R:Ending→World→Prop} (HM:Mem W w (.obj l (.loop (rA fn tmps ps assign body B .ready none))::F)) (hs:args.size=ps.size)
  (h : assign.wpIn (Fence.wide.inRound l) 0 P (Exit.then (fun a1 w1 => ∃ F1, Mem W w1 (.obj l (.loop (rA fn tmps ps assign body B .ready none)) :: F1) ∧ ∀ w2, Mem W w2 (.obj l (.loop (rA fn tmps ps assign body B .busy none)) :: F1) → body.wpIn (Fence.wide.inRound l) 0 P (roundEnd W l (rA fn tmps ps assign body B) R) a1 w2) (fun _ _ _ => False))
   {tmps:=(ps.zip args).foldl (fun t (p,v)=>t.setIfInBounds p v) tmps,defers:=[]} w):YieldAt Fence.wide 0 P l args w R:=by
 have hl:=HM.fU (i:=0) rfl
 refine ⟨fn,_,assign,body,run_yield hl hs,roundIn_of_wpIn trivial (wpIn_mono h ?_)⟩
 rintro e a1 w1 hq
 cases e with
 | normal =>
  obtain ⟨F1,h1,h2⟩:=hq
  refine ⟨_,run_beginRound (h1.fU (i:=0) rfl) rfl,?_⟩
  refine wpIn_mono (h2 _ (h1.setObj (i:=0) rfl _)) ?_
  rintro e a2 w2 hq
  cases e with
  |normal=>
   obtain ⟨F2,h3,h4⟩:=hq
   exact ⟨_,_,run_endRound none (h3.fU (i:=0) rfl),h4 _ (h3.setObj (i:=0) rfl _)⟩
  |ret=>
   obtain ⟨F2,h3,h4⟩:=hq
   exact ⟨_,_,run_endRound (some .ret) (h3.fU (i:=0) rfl),h4 _ (h3.setObj (i:=0) rfl _)⟩
  |exit id=>
   obtain ⟨F2,h3,h4⟩:=hq
   exact ⟨_,_,run_endRound (some (.exit id)) (h3.fU (i:=0) rfl),h4 _ (h3.setObj (i:=0) rfl _)⟩
  |goto t=>exact hq.elim
  |panic c=>exact hq.elim
  |outgrown=>exact hq.elim
 |exit id=>exact hq.elim
 |goto t=>exact hq.elim
 |ret=>exact hq.elim
 |panic c=>exact hq.elim
 |outgrown=>exact hq.elim
theorem Fr.L9 {tmps:Array Value} {p1 p2:Nat} {v1 v2:Value} (h:Fr {tmps:=tmps,defers:=[]} n D σ) (h1:p1<n) (h2:p2<n):Fr {tmps:=(#[p1,p2].zip #[v1,v2]).foldl (fun t (p,v)=>t.setIfInBounds p v) tmps,defers:=[]} n D ((p2,v2)::(p1,v1)::σ):=by
 have h3:=(h.put h1 v1).put h2 v2
 simpa [Act.put] using h3
theorem Ma {rec:LoopState→Option Code→Loop} {assign body:Code} {B p1 p2:Nat} {v1 v2:Value} {F:List Fact} {R:Ending→World→Prop} (hrec:∃fn tmps,rec=rA fn tmps #[p1,p2] assign body B∧Fr {tmps:=tmps,defers:=[]} n [] σ) (HM:Mem W w (.obj l (.loop (rec .ready none))::F)) (h1:p1<n) (h2:p2<n)
  (h:∀a,Fr a n [] ((p2,v2)::(p1,v1)::σ)→assign.wpIn (Fence.wide.inRound l) 0 P (Exit.then (fun a1 w1=>∃F1,Mem W w1 (.obj l (.loop (rec .ready none))::F1)∧∀w2,Mem W w2 (.obj l (.loop (rec .busy none))::F1)→body.wpIn (Fence.wide.inRound l) 0 P (roundEnd W l rec R) a1 w2) (fun _ _ _=>False)) a w):YieldAt Fence.wide 0 P l #[v1,v2] w R:=by
 obtain ⟨fn,tmps,rfl,Z⟩:=hrec
 exact qqh HM rfl (h _ (Z.L9 h1 h2))
theorem SN {a:Act} {w:World} {K K':Act→World→Prop} (hQ:¬LetsOut Q) (hK:∀a w,K a w→K' a w) (h:o.wp P a w K Q∨(o.asks P a w∧LetsOut Q)):o.wpIn Fence.wide 0 P a w K' Q:=by
 rcases h with h|h
 ·refine ⟨fun _ _=>trivial,?_⟩
  rw [show Fence.wide.round=none from rfl,Oper.semAt_none]
  unfold Oper.wp at h
  generalize (execOp a.eval o).run P w=r at h
  cases r with
  | ok x w' =>
   cases x with
   |value v=>exact hK _ _ h
   |skip=>exact hK _ _ h
   |defer d=>exact hK _ _ h
   |enter f args=>
    refine ⟨fun h=>by simp [Fence.wide] at h,?_⟩
    show CallsIn Fence.wide 0 P f args w' _
    refine (callsIn_wide.2 h).mono ?_
    intro e w'' he
    cases e with
    |returned v=>exact hK _ _ he
    |panicked c=>exact he
    |outgrown=>exact he
   |row r args=>
    refine ⟨fun h=>by simp [Fence.wide] at h,fun c cs _=>?_⟩
    obtain ⟨v,w'',h1,h2⟩:=(h:Rows P r args w' _) c cs
    exact ⟨v,w'',hK _ _ h1,stepsIn_wide.2 h2⟩
   |_=>exact (h:False).elim
  |halt hh w'=>
   cases hh with
   |panic v=>exact h
   |_=>exact (h:False).elim
 ·exact absurd h.2 hQ
theorem Mc (hQ:¬LetsOut Q):∀(os:List Oper) (a:Act) (w:World),wpList P ops Q os a w→wpListIn Fence.wide 0 P ops Q os a w
 |[],_,_,h=>h
 | o :: os, a, w, h => by
  unfold wpList at h
  unfold wpListIn
  split at h
  ·rename_i hw
   rw [if_pos hw]
   exact SN hQ (fun a w h=>Mc hQ os a w h) h
  ·rename_i hw
   rw [if_neg hw]
   exact ⟨fun _ _=>trivial,Mc hQ os _ _ h⟩
theorem SQ {pre:Array Oper} (hQ:¬LetsOut Q) (K:Act→World→Prop) (os2:List Oper) (hK:∀a w,K a w→wpListIn Fence.wide 0 P ops Q os2 a w):∀(os:List Oper),(∀o∈os,o.guard=none)→∀a w,wpList P pre (Exit.then K Q) os a w→wpListIn Fence.wide 0 P ops Q (os++os2) a w
 |[],_,a,w,h=>hK a w h
 | o :: os, hg, a, w, h => by
  have h1:∀x,Region.wanted o x=true:=fun x=>by unfold Region.wanted;rw [hg o List.mem_cons_self]
  unfold wpList at h
  rw [if_pos (h1 _)] at h
  show if Region.wanted o (yielded ops a.tmps)=true then _ else _
  rw [if_pos (h1 _)]
  have h2:=SN (Q:=Exit.then K Q) (K':=wpListIn Fence.wide 0 P ops Q (os++os2)) (fun ⟨a,w,h⟩=>hQ ⟨a,w,h⟩) (fun a w h=>SQ hQ K os2 hK os (fun o ho=>hg o (List.mem_cons_of_mem _ ho)) a w h) h
  refine ⟨h2.1,?_⟩
  have h3:=h2.2
  generalize (o.semAt Fence.wide.round a.eval).run P w=r at h3
  cases r with
  | ok x w' =>
   cases x with
   |enter f args=>
    refine ⟨h3.1,h3.2.mono ?_⟩
    intro e w'' he
    cases e with
    |returned v=>exact he
    |panicked c=>exact he
    |outgrown=>exact he
   |round l f tmps assign body=>
    refine ⟨h3.1,h3.2.mono ?_⟩
    intro e w'' he
    cases e with
    |returned v=>exact he
    |panicked c=>exact he
    |outgrown=>exact he
   |_=>exact h3
  |halt hh w'=>
   cases hh with
   |panic v=>exact h3
   |_=>exact h3
theorem SS {id i:Nat} (h:qh P (ops.toList.take i).toArray (Exit.then (fun a w=>∃o,ops[i]?=some o∧o.guard=none∧o.wpIn Fence.wide 0 P a w (wpListIn Fence.wide 0 P ops Q (ops.toList.drop (i+1))) Q) Q) 0 a w) (hg:((ops.toList.take i).all fun o=>o.guard.isNone)=true:=by kernel_rfl) (hQ:¬LetsOut Q:=by intro ⟨_,_,h⟩;obtain ⟨_,h,_⟩:=h;cases h):(Code.region id ops false).wp P Q a w:=by
 refine wpIn_wide.1 (wpIn_region_list (n:=0) ?_)
 have h0:wpList P (ops.toList.take i).toArray (Exit.then (fun a w=>∃o,ops[i]?=some o∧o.guard=none∧o.wpIn Fence.wide 0 P a w (wpListIn Fence.wide 0 P ops Q (ops.toList.drop (i+1))) Q) Q) (ops.toList.take i) a w:=by simpa [qh] using h
 have h1:=SQ (ops:=ops) hQ _ (ops.toList.drop i) (fun a w ⟨o,ho,hn,h⟩=>by
  obtain ⟨hl,he⟩:=Array.getElem?_eq_some_iff.1 ho
  rw [List.drop_eq_getElem_cons (by simpa using hl),Array.getElem_toList,he]
  unfold wpListIn
  rw [if_pos (by unfold Region.wanted;rw [hn])]
  exact h) (ops.toList.take i) (fun o ho=>by
  have:=List.all_eq_true.1 hg o ho
  simpa using this) a w h0
 rwa [List.take_append_drop] at h1
theorem Mem.q5s {r:Fact} {es F:List Fact} (h:Mem W w (r::(es++F))):Mem W w (r::(F++es)):=h.perm (List.Perm.cons _ List.perm_append_comm)
theorem Mem.Em {es F:List Fact} (h:Mem W w (F++es)):Mem W w (es++F):=h.perm List.perm_append_comm
theorem Mem.Md (es:List Fact) {F:List Fact} (h:Mem W w (es++F)):Mem W w F:=h.rz (List.sublist_append_right es F)
theorem SV (Z:Fr a n D σ) {fo:Operand} {xs:Array Operand} {ts:Array TypeId} {vs:List Value} {R:Ending→World→Prop} (ho:ops[i]?=some o) (hn:o.guard=none) (hop:o.op= .call {callee:= .value fo,args:=xs,argTypes:=ts}) (hfo:look σ fo=some (.func (.yield l) #[] #[])) (hv:looks σ xs.toList=some vs) (hd:o.dst=some d) (hdn:d<n)
  (hy:YieldAt Fence.wide 0 P l vs.toArray w R) (hR:∀e w',R e w'→∃v,e= .returned v) (k:∀v w' a',R (.returned v) w'→Fr a' n D ((d,v)::σ)→qh P ops Q (i+1) a' w') (hQ:¬LetsOut Q:=by intro ⟨_,_,h⟩;obtain ⟨_,h,_⟩:=h;cases h):
  ∃o,ops[i]?=some o∧o.guard=none∧o.wpIn Fence.wide 0 P a w (wpListIn Fence.wide 0 P ops Q (ops.toList.drop (i+1))) Q:=by
 refine ⟨o,ho,hn,fun _ _=>trivial,?_⟩
 have e1:xs.map a.eval=vs.toArray:=by
  have:=Cb Z hv
  rw [←this,←Array.toList_map,Array.toArray_toList]
 obtain ⟨fn,tmps,assign,body,h1,h2⟩:=hy
 rw [show Fence.wide.round=none from rfl,Oper.semAt_none]
 unfold execOp
 simp only [hop,resolve,Z.eval hfo,Deferred.ofValue,invoke,Sem.run_bind,Sem.run_pure,Result.andThen_ok]
 have e2:(#[]:Array Value)++Array.map a.eval xs++ #[]=vs.toArray:=by simp [e1]
 show Oper.uponIn Fence.wide 0 P o a _ Q ((Instr.yield l (#[]++Array.map a.eval xs++ #[])).run P w)
 rw [e2,h1]
 refine ⟨fun h=>by simp [Fence.wide] at h,h2.mono ?_⟩
 intro e w' he
 obtain ⟨v,rfl⟩:=hR e w' he
 show wpListIn Fence.wide 0 P ops Q (ops.toList.drop (i+1)) (a.put o.dst v) w'
 rw [hd]
 exact Mc hQ _ _ _ (k v w' _ he (Z.put hdn v))
theorem Me {g:Operand} {ps:Array Tmp} {assign body:Code} {gf:Nat} {caps:List Value} (Z:Fr a n [] σ) (HM:Mem W w fs) (J:List Fact→Prop) (X:Code→List Fact→Prop) (hg:look σ g=some (.func (.func gf) #[] caps.toArray)) (hcl:callable P gf=true)
  (hit : ∀ (l B : Nat) (rec : LoopState → Option Code → Loop) (w1 : World), (∃ fn tmps, rec = rA fn tmps ps assign body B ∧ Fr { tmps := tmps, defers := [] } n [] σ) → Mem W w1 (.obj l (.loop (rec .ready none)) :: .obj B (.deferred (some [])) :: fs) →
   Calls P gf (.func (.yield l) #[] #[]::caps).toArray w1 fun r w'=>∃v,r= .returned v∧((∃F,J F∧Mem W w' (.obj l (.loop (rec .ready none)):: .obj B (.deferred (some []))::F))∨∃c F,X c F∧Mem W w' (.obj l (.loop (rec .done (some c))):: .obj B (.deferred (some []))::F)))
  (hdone:∀(B:Nat) (a':Act) (w':World) (F:List Fact),J F→Fr a' n [{target:= .collected B,args:= #[]}] σ→Mem W w' (.obj B (.deferred (some []))::F)→Q .normal a' w')
  (hstop:∀(c:Code) (B:Nat) (a':Act) (w':World) (F:List Fact),X c F→Fr a' n [{target:= .collected B,args:= #[]}] σ→Mem W w' (.obj B (.deferred (some []))::F)→c.wp P Q a' w'):
  (Code.rangeFunc g ps assign body).wp P Q a w:=by
 refine (wpIn_wide (n:=0)).1 (wpIn_rangeFunc ?_)
 intro fn _
 show ∃l mark w₁ d w₁' f args w₂,(Instr.enterLoop fn a.tmps ps assign body none).run P w= .ok (l,mark) w₁∧_
 have h1:=(HM.jw (.deferred (some []))).jw (.loop (rA fn a.tmps ps assign body w.heap.size .ready none))
 rw [World.size_alloc] at h1
 have HF1:Fr {tmps:=a.tmps,defers:=[]} n [] σ:=⟨Z.size,rfl,Z.slot⟩
 have SX:Fr {a with defers:={target:= .collected w.heap.size,args:= #[]}::a.defers} n [{target:= .collected w.heap.size,args:= #[]}] σ:=⟨Z.size,by show _::a.defers=_;rw [Z.defers],Z.slot⟩
 have hE:(Instr.enterLoop fn a.tmps ps assign body none).run P w= .ok (w.heap.size+1,[{target:= .collected w.heap.size,args:= #[]}]) ((w.alloc (.deferred (some []))).alloc (.loop (rA fn a.tmps ps assign body w.heap.size .ready none))):=run_enterLoop_outer _ _ _ _ _
 generalize (w.alloc (.deferred (some []))).alloc (.loop (rA fn a.tmps ps assign body w.heap.size .ready none))=W1 at h1 hE
 refine ⟨w.heap.size+1,[{target:= .collected w.heap.size,args:= #[]}],W1,{target:= .fn (.func gf) caps.toArray,args:= #[.func (.yield (w.heap.size+1)) #[] #[]]},W1,gf,#[.func (.yield (w.heap.size+1)) #[] #[]]++caps.toArray,W1,hE,?_,fun _ _=>trivial,?_,fun h=>by simp [Fence.wide] at h,?_⟩
 ·simp only [resolve,Z.eval hg]
  simp [go_sem]
 ·simp [invoke,go_sem,LQ hcl]
 ·have e:(#[.func (.yield (w.heap.size+1)) #[] #[]]++caps.toArray:Array Value)=(.func (.yield (w.heap.size+1)) #[] #[]::caps).toArray:=by simp
  rw [e]
  refine callsIn_wide.2 ((hit _ _ _ _ ⟨fn,a.tmps,rfl,HF1⟩ h1).mono ?_)
  rintro e w' ⟨v,rfl,(⟨F,hJ,hM⟩|⟨c,F,hX,hM⟩)⟩
  ·have h2:=run_endLoop (P:=P) (hM.fU (i:=0) rfl) (by simp [rA])
   exact ⟨none,_,h2,hdone _ _ _ F hJ SX (hM.setObj (i:=0) rfl _).tail⟩
  ·have h2:=run_endLoop (P:=P) (hM.fU (i:=0) rfl) (by simp [rA])
   exact ⟨some c,_,h2,wpIn_wide.2 (hstop c _ _ _ F hX SX (hM.setObj (i:=0) rfl _).tail)⟩
def rC (P:Program) (fn:Func) (R:Ending→World→Prop):Exit→Act→World→Prop
 | .normal,a,w| .ret,a,w=>LeavesInM Fence.wide 0 P fn a.tmps R a.defers .returning w
 |_,_,_=>False
theorem Mf {f N:Nat} {fn:Func} {c:Code} {vs:List Value} {R:Ending→World→Prop} (hf:P.funcs[f]?=some fn) (hb:fn.body=some c) (hn:fn.ntmps=N) (hl:decide (vs.length≤N)=true) {σ0:List (Nat×Value)} (h0:Ce 0 vs=σ0)
  (k:∀a,Fr a N [] σ0→c.wp P (rC P fn R) a w):Calls P f vs.toArray w R:=by
 subst h0
 rw [decide_eq_true_eq] at hl
 refine (callsIn_wide (n:=0)).1 (callsIn_of_wp_marks hf hb trivial (wpIn_wide.2 (Code.wp_mono (fun e a w h=>by cases e<;>first|exact h|exact (h:False).elim) (k _ ⟨by simp [hn];omega,rfl,fun t v hv=>?_⟩))) rfl)
 obtain ⟨_,h1⟩:=LV vs 0 t v hv
 rw [Nat.sub_zero] at h1
 have hlt:=(List.getElem?_eq_some_iff.1 h1).1
 simp only [Array.getD_eq_getD_getElem?,Array.getElem?_append,List.size_toArray,if_pos hlt]
 simp [h1]
section
variable {fn:Func} {R:Ending→World→Prop}
theorem En (h:bodyPost P fn R .ret a w):rC P fn R .ret a w:=by
 obtain ⟨hd,v,hr,hR⟩:=h
 show LeavesInM Fence.wide 0 P fn a.tmps R a.defers .returning w
 rw [hd]
 exact ⟨v,hr,hR⟩
theorem Cr {B:Nat} (Z:Fr a n [{target:= .collected B,args:= #[]}] σ) (HM:Mem W w fs) (hi:fs[i]?=some (.obj B (.deferred (some [])))) (h:∀(a':Act) (w':World),Fr a' n [] σ→Mem W w' (fs.set i (.obj B (.deferred none)))→bodyPost P fn R .ret a' w'):rC P fn R .ret a w:=by
 obtain ⟨_,v,hr,hR⟩:=h {tmps:=a.tmps,defers:=[]} _ ⟨Z.size,rfl,Z.slot⟩ (HM.setObj hi (.deferred none))
 show LeavesInM Fence.wide 0 P fn a.tmps R a.defers .returning w
 rw [Z.defers]
 exact ⟨fun h=>(nomatch h),.inl ⟨B,_,rfl,run_takeDeferred (HM.fU hi),v,hr,hR⟩⟩
theorem yQ (hr:fn.results= #[]) (Z:Fr a n [] σ) (hR:R (.returned (.tuple #[])) w):bodyPost P fn R .ret a w:=
 bodyPost_ret (v:= .tuple #[]) (by
  rw [Iq,hr]
  simp) Z.defers hR
theorem wW (hr:fn.results= #[]) (Z:Fr a n [] σ) (hR:R (.returned (.tuple #[])) w):bodyPost P fn R .normal a w:=yQ hr Z hR
end
end
section
variable {P:Program} {W w:World} {l n:Nat} {σ:List (Nat×Value)}
end
theorem Yl.str {S:World→Prop} {σ:List (Nat×Value)} {o:Oper} {x:Operand} {A:Option Addr} {n c:Nat} {l:List Nat} (hop:o.op= .convert 30 9 x) (hx:look σ x=some (.slice A n c)) (hr:∀w,S w→Rd w w.heap.size 1 A n (l.map B8)):Yl Tryz.prog S σ o (.string (eT l)):=fun a m D Z w hS=>by
 unfold execOp
 simp [hop,Z.eval hx,ZX (hr w hS)]
theorem zk (l:List Nat):∀u∈l.map B8,u.oneCell'=true:=by
 intro u hu
 obtain ⟨x,_,rfl⟩:=List.mem_map.1 hu
 rfl
theorem Rd.qZ {w:World} {B n k cap:Nat} {A:Option Addr} {l:List Nat} (h:Rd w B 1 A n (l.map B8)) (hk:k≤n) (hc:n≤cap):Rd w B 1 (if cap=k then A else A.map (·.add (k*1))) (n-k) ((l.drop k).map B8):=by
 have h1:=h.from hk hc
 rw [List.map_drop]
 have e:(l.map B8).drop (k*1)=(l.map B8).drop k:=by rw [Nat.mul_one]
 rw [←e]
 exact h1
theorem Mem.le {W w:World} {fs:List Fact} (h:Mem W w fs) {B:Nat} (hB:B≤W.heap.size):B≤w.heap.size:=Nat.le_trans hB h.size
theorem oH {x:Int} (h: -9223372036854775808≤x∧x≤9223372036854775807):Value.int .i64 (IntKind.i64.wrap x)= .int .i64 x:=by rw [IntWalk.i64_in x h]
def za (w:World) (er:Nat) (R:List Nat) (r:Ending) (w':World):Prop:=
 (∃A c,r= .returned (.tuple #[.slice A R.length c,.int .i64 (er:Int)])∧w'.ownsRow w.heap.size 5 1 (.slice A R.length c) R.length (R.map B8)∧R.length≤c)∧Below w.heap.size w w'
section
variable {P:Program} {S:World→Prop} {σ:List (Nat×Value)} {o:Oper} {t e:TypeId} {z:Value} {size bytes:Nat}
theorem Yl.sliceFrom (ei:EI P t e z size bytes) {x lo:Operand} {A:Option Addr} {m c j:Nat} {k:IntKind} (hop:o.op= .slice t x (some lo) none none) (hx:look σ x=some (.slice A m c)) (hl:look σ lo=some (.int k (j:Int))) (hj:j≤m):
  Yl P S σ o (.slice (if c=j then A else A.map (·.add (j*size))) (m-j) (c-j)):=fun a n D Z w hS=>by
 unfold execOp
 simp only [hop,Z.eval hx,Z.eval hl,Option.map_some,Option.map_none,Sem.run_bind,Sem.run_pure,ZR (P:=P) ei hj,Result.andThen_ok]
theorem Yl.q0 (ei:EI P t e z size bytes) {x hi:Operand} {A:Option Addr} {m c j:Nat} {k:IntKind} (hop:o.op= .slice t x none (some hi) none) (hx:look σ x=some (.slice A m c)) (hl:look σ hi=some (.int k (j:Int))) (hj:j≤c):
  Yl P S σ o (.slice A j c):=fun a n D Z w hS=>by
 unfold execOp
 simp only [hop,Z.eval hx,Z.eval hl,Option.map_some,Option.map_none,Sem.run_bind,Sem.run_pure,ZT (P:=P) ei hj,Result.andThen_ok]
end
section
variable {P:Program} {S:World→Prop} {σ:List (Nat×Value)} {o:Oper}
def placesOf (P:Program):List Field→Option (List (Nat×Nat))
 |[]=>some []
 |f::r=>match P.info? f.type,placesOf P r with
  |some i,some l=>some ((f.offset,i.size)::l)
  |_,_=>none
theorem Sj:∀{fs:List Field} {l:List (Nat×Nat)},placesOf P fs=some l→∀w,(fs.mapM fun f=>(do pure (f.offset,←sizeOf f.type):Sem (Nat×Nat))).run P w= .ok l w
 |[],l,h,w=>by cases h;rfl
 | f :: r, l, h, w => by
  unfold placesOf at h
  split at h
  ·rename_i i l' hi hr
   injection h with h
   subst h
   simp [List.mapM_cons,sizeOf,typeInfo,hi]
   have:=Sj hr w
   simp [sizeOf,typeInfo] at this
   simp [this]
  ·cases h
def Sk (P:Program) (t:TypeId) (vs:List (Nat×Value)):Option (Array Value):=match P.underlying t,yG P t with
 |some (.struct fs),some z=>match placesOf P fs.toList with
  |some l=>Instr.fill (l.toArray[·]?) z vs
  |none=>none
 |_,_=>none
theorem Yl.build {t:TypeId} {ps:Array (Nat×Operand)} {vs:List (Nat×Value)} {cs:Array Value} (hop:o.op= .build t ps) (hv:wT σ ps.toList=some vs) (hb:Sk P t vs=some cs):Yl P S σ o (.agg cs):=fun a n D Z w hS=>by
 have hpm:=RZ Z hv
 have e1:(Instr.build t (ps.map fun p=>(p.1,a.eval p.2))).run P w= .ok (.agg cs) w:=by
  rw [hpm]
  unfold Sk at hb
  split at hb
  ·rename_i fs z hu hz
   split at hb
   ·rename_i l hl
    unfold yG at hz
    obtain ⟨zv,hz1,rfl⟩:=Option.map_eq_some_iff.1 hz
    obtain ⟨i,hi,hz2⟩:=Option.bind_eq_some_iff.1 hz1
    have hm:(fs.mapM fun f=>(do Pure.pure (f.offset,←sizeOf f.type):Sem (Nat×Nat))).run P w= .ok l.toArray w:=by
     rw [←Array.toArray_toList (xs:=fs),List.mapM_toArray]
     simp only [Sem.run_map,Sj hl]
     rfl
    unfold Instr.build
    simp only [Sem.run_bind,zeroValue,typeInfo,program,Sem.run,hi,hz2,Sem.run_pure,Result.andThen_ok,run_underlying hu,hm,hb]
   ·cases hb
  ·cases hb
 unfold execOp
 simp only [hop,Sem.run_bind,Sem.run_pure]
 show ((Instr.build t (ps.map fun p=>(p.1,a.eval p.2))).run P w).andThen _=_
 rw [e1]
 rfl
end
theorem zb {w:World} {base:Nat} {e:TypeId} {size n c:Nat} {A:Option Addr} {xs:List Value} (h:w.ownsRow base e size (.slice A n c) n xs) (hn:0<n):∃g,A=some ⟨g,0,none⟩:=by
 obtain ⟨g,c',h1,_⟩:=q57 h hn
 injection h1 with h1 _ _
 exact ⟨g,h1⟩
theorem Mem.Sl {W w:World} {fs:List Fact} (h:Mem W w fs) {α:Type} {f:α→List Value} {sz:Nat} (hf:∀x,(f x).length=sz) {i g m c:Nat} {e:TypeId} {l:List α} (hi:fs[i]?=some (.row (.slice (some ⟨g,0,none⟩) m c) m (l.flatMap f) e sz)) {k:Nat} {x:α} (hk:l[k]?=some x):w.rangeAt g (k*sz) (f x):=
 h.LU hi (k*sz) fun j u hu=>by
  obtain ⟨hl,he⟩:=List.getElem?_eq_some_iff.1 hk
  have hj:j<sz:=by have:=(List.getElem?_eq_some_iff.1 hu).1;rwa [hf] at this
  rw [wI f sz hf l k j hl hj,he]
  exact hu
section
variable {P:Program} {S:World→Prop} {σ:List (Nat×Value)} {o:Oper} {v:Value}
def Ck (P:Program) (t:TypeId):Bool:=match P.underlying t with
 |some (.func _ _ _)=>true
 |_=>false
theorem qtp {t:TypeId} {f:Fn} {xs ys:Array Value} (ht:Ck P t=true) (w:World):(Op.equal t (.func f xs ys) .nilFunc).run P w= .ok false w:=by
 unfold Ck at ht
 split at ht
 ·rename_i hu
  show (Op.equalIn (9999+1) t (.func f xs ys) .nilFunc).run P w=_
  unfold Op.equalIn
  simp only [Sem.run_bind,run_underlying hu,Result.andThen_ok]
  rfl
 ·cases ht
theorem qwa {t:TypeId} (ht:Ck P t=true) (w:World):(Op.equal t .nilFunc .nilFunc).run P w= .ok true w:=by
 unfold Ck at ht
 split at ht
 ·rename_i hu
  show (Op.equalIn (9999+1) t .nilFunc .nilFunc).run P w=_
  unfold Op.equalIn
  simp only [Sem.run_bind,run_underlying hu,Result.andThen_ok]
  rfl
 ·cases ht
theorem Yl.Sm {t u:TypeId} {x y:Operand} {f:Fn} {xs ys:Array Value} (hop:o.op= .binOp .neq t x y u) (hx:look σ x=some (.func f xs ys)) (hy:look σ y=some .nilFunc) (ht:Ck P t=true):Yl P S σ o (.bool true):=fun a n D Z w hS=>by
 unfold execOp
 have e:(binOp .neq t (.func f xs ys) .nilFunc).run P w= .ok (.bool true) w:=by
  show ((do Pure.pure (.bool (!(←Op.equal t (.func f xs ys) .nilFunc))):Sem Value)).run P w=_
  simp [qtp ht]
 simp only [hop,Z.eval hx,Z.eval hy,Sem.run_bind,wM (P:=P) .neq t x y (a:= .func f xs ys) rfl,Result.andThen_ok,e,Sem.run_pure]
theorem Yl.q68 {t u:TypeId} {x y:Operand} (hop:o.op= .binOp .neq t x y u) (hx:look σ x=some .nilFunc) (hy:look σ y=some .nilFunc) (ht:Ck P t=true):Yl P S σ o (.bool false):=fun a n D Z w hS=>by
 unfold execOp
 have e:(binOp .neq t .nilFunc .nilFunc).run P w= .ok (.bool false) w:=by
  show ((do Pure.pure (.bool (!(←Op.equal t .nilFunc .nilFunc))):Sem Value)).run P w=_
  simp [qwa ht]
 simp only [hop,Z.eval hx,Z.eval hy,Sem.run_bind,wM (P:=P) .neq t x y (a:= .nilFunc) rfl,Result.andThen_ok,e,Sem.run_pure]
theorem Yl.Sn {t:TypeId} {x:Operand} {m:Nat} (hop:o.op= .unOp .xor t x) (hx:look σ x=some (.int .u32 (m:Int))) (hm:m<4294967296):Yl P S σ o (.int .u32 ((m^^^4294967295:Nat):Int)):=fun a n D Z w hS=>by
 have h1:=Ea (m:=4294967295) (n:=m) de hm
 rw [Nat.xor_comm] at h1
 unfold execOp
 simp only [hop,Z.eval hx,Op.unary]
 rw [←h1]
 rfl
def Sq (P:Program) (t:TypeId):Option (Nat×Nat):=match P.underlying t with
 |some (.array n e)=>(P.info? e).map fun i=>(n,i.size)
 |_=>none
theorem Yl.Iw {t:TypeId} {x ix:Operand} {ad:Addr} {m y sz:Nat} {k:IntKind} (hop:o.op= .indexAddr t x ix) (hx:look σ x=some (.pointer (some ad))) (hi:look σ ix=some (.int k (y:Int))) (he:Sq P t=some (m,sz)) (hy:y<m):Yl P S σ o (.pointer (some (ad.add (y*sz)))):=fun a n D Z w hS=>by
 unfold Sq at he
 split at he
 ·rename_i m' e hu
  obtain ⟨i,hi',he⟩:=Option.map_eq_some_iff.1 he
  injection he with h1 h2
  subst h1;subst h2
  unfold execOp
  simp [hop,Z.eval hx,Z.eval hi,Instr.indexAt,asIntOf,run_underlying hu,hy,sizeOf,typeInfo,hi',Instr.sureAddr]
 ·cases he
theorem Yl.Cm {t e:TypeId} {z:Value} {size bytes:Nat} (ei:EI P t e z size bytes) {x lo hi:Operand} {A:Option Addr} {m c i j:Nat} {k k':IntKind} (hop:o.op= .slice t x (some lo) (some hi) none) (hx:look σ x=some (.slice A m c)) (hl:look σ lo=some (.int k (i:Int))) (hh:look σ hi=some (.int k' (j:Int))) (hij:i≤j) (hj:j≤c):
  Yl P S σ o (.slice (if c=i then A else A.map (·.add (i*size))) (j-i) (c-i)):=fun a n D Z w hS=>by
 obtain ⟨inf,yJ,_,hs,_⟩:=info_parts ei.hi
 have hi':i≤c:=Nat.le_trans hij hj
 have e1:(Instr.sliceAt t (.slice A m c) (some (.int k (i:Int))) (some (.int k' (j:Int))) none).run P w= .ok (.slice (if c=i then A else A.map (·.add (i*size))) (j-i) (c-i)) w:=by
  subst hs
  simp [Instr.sliceAt,run_underlying ei.ht,Instr.slice,Instr.sliceBounds,Instr.sliceBound,asIntOf,hij,hj,sizeOf,typeInfo,yJ]
 unfold execOp
 simp only [hop,Z.eval hx,Z.eval hl,Z.eval hh,Option.map_some,Option.map_none,Sem.run_bind,e1,Result.andThen_ok]
 rfl
def Sr (P:Program) (t:TypeId):Option Nat:=match P.underlying t with
 |some (.array n _)=>some n
 |_=>none
theorem Yl.arrayAt {t:TypeId} {x:Operand} {A:Option Addr} {m c k:Nat} (hop:o.op= .sliceToArrayPointer t x) (hx:look σ x=some (.slice A m c)) (ht:Sr P t=some k) (hk:k≤m):Yl P S σ o (.pointer A):=fun a n D Z w hS=>by
 unfold Sr at ht
 split at ht
 ·rename_i m' e hu
  injection ht with ht;subst ht
  unfold execOp
  simp [hop,Z.eval hx,Instr.arrayAt,run_underlying hu,Nat.not_lt.2 hk]
 ·cases ht
end
theorem Rd.mid {w:World} {B size n c i j:Nat} {A:Option Addr} {xs:List Value} (h:Rd w B size A n xs) (hij:i≤j) (hj:j≤n) (hc:n≤c):
  Rd w B size (if c=i then A else A.map (·.add (i*size))) (j-i) ((xs.take (j*size)).drop (i*size)):=by
 have h1:=h.from (k:=i) (cap:=c) om hc
 have h2:=h1.upto (k:=j-i) om
 rw [List.drop_take,←Nat.sub_mul]
 exact h2
theorem Rd.uF {w:World} {B n c i j:Nat} {A:Option Addr} {l:List Nat} (h:Rd w B 1 A n (l.map B8)) (hij:i≤j) (hj:j≤n) (hc:n≤c):
  Rd w B 1 (if c=i then A else A.map (·.add (i*1))) (j-i) (((l.take j).drop i).map B8):=by
 have h1:=h.mid hij hj hc
 rw [Nat.mul_one,Nat.mul_one,←List.map_take,←List.map_drop] at h1
 rw [Nat.mul_one]
 exact h1
section
variable {W w:World} {fs:List Fact}
theorem Mem.jy (h:Mem W w fs) {g:Nat} {ob:Obj} (hb:W.heap[g]?=some ob):w.heap[g]?=some ob:=(h.below.block g (kQ hb)).trans hb
theorem Mem.qy (h:Mem W w fs) {g off:Nat} {cs:Array Value} {t:TypeId} {v:Value} (hb:W.heap[g]?=some (.cells cs t (0,0))) (hc:cs[off]?=some v):w.cell? ⟨g,off,none⟩=some v:=by
 simp [World.cell?,h.jy hb,hc]
end
section
variable {P:Program} {S:World→Prop} {σ:List (Nat×Value)} {o:Oper}
theorem Yl.q7d {t e:TypeId} {z:Value} {size bytes:Nat} (ei:EI P t e z size bytes) {x lo hi mx:Operand} {A:Option Addr} {m c i j q:Nat} {k k' k2:IntKind} (hop:o.op= .slice t x (some lo) (some hi) (some mx)) (hx:look σ x=some (.slice A m c)) (hl:look σ lo=some (.int k (i:Int))) (hh:look σ hi=some (.int k' (j:Int))) (hm:look σ mx=some (.int k2 (q:Int))) (hij:i≤j) (hj:j≤q) (hq:q≤c):
  Yl P S σ o (.slice (if q=i then A else A.map (·.add (i*size))) (j-i) (q-i)):=fun a n D Z w hS=>by
 obtain ⟨inf,yJ,_,hs,_⟩:=info_parts ei.hi
 have e1:(Instr.sliceAt t (.slice A m c) (some (.int k (i:Int))) (some (.int k' (j:Int))) (some (.int k2 (q:Int)))).run P w= .ok (.slice (if q=i then A else A.map (·.add (i*size))) (j-i) (q-i)) w:=by
  subst hs
  simp [Instr.sliceAt,run_underlying ei.ht,Instr.slice,Instr.sliceBounds,Instr.sliceBound,asIntOf,hij,hj,hq,sizeOf,typeInfo,yJ]
 unfold execOp
 simp only [hop,Z.eval hx,Z.eval hl,Z.eval hh,Z.eval hm,Option.map_some,Sem.run_bind,e1,Result.andThen_ok]
 rfl
end
theorem Wh {α:Type} (f:α→List Value) (sz:Nat) (hf:∀x,(f x).length=sz):∀(l:List α) (k:Nat),(l.flatMap f).take (k*sz)=(l.take k).flatMap f
 |[],_=>by simp
 |_::_,0=>by simp
 |x::l,k+1=>by
  rw [List.flatMap_cons,List.take_succ_cons,List.flatMap_cons,List.take_append,List.take_of_length_le (by rw [hf,Nat.succ_mul];omega),hf,←Wh f sz hf l k]
  congr 2
  rw [Nat.succ_mul];omega
theorem Wi {α:Type} (f:α→List Value) (sz:Nat) (hf:∀x,(f x).length=sz):∀(l:List α) (k:Nat),(l.flatMap f).drop (k*sz)=(l.drop k).flatMap f
 |[],_=>by simp
 |_::_,0=>by simp
 |x::l,k+1=>by
  rw [List.flatMap_cons,List.drop_succ_cons,List.drop_append,List.drop_of_length_le (by rw [hf,Nat.succ_mul];omega),hf,←Wi f sz hf l k,List.nil_append]
  congr 1
  rw [Nat.succ_mul];omega
theorem Rd.Ah {α:Type} {f:α→List Value} {sz:Nat} (hf:∀x,(f x).length=sz) {w:World} {B k:Nat} {A:Option Addr} {l:List α} (h:Rd w B sz A l.length (l.flatMap f)) (hk:k≤l.length):Rd w B sz A k ((l.take k).flatMap f):=by
 have h1:=h.upto hk
 rwa [Wh f sz hf] at h1
theorem Rd.Wj {α:Type} {f:α→List Value} {sz:Nat} (hf:∀x,(f x).length=sz) {w:World} {B k c:Nat} {A:Option Addr} {l:List α} (h:Rd w B sz A l.length (l.flatMap f)) (hk:k≤l.length) (hc:l.length≤c):Rd w B sz (if c=k then A else A.map (·.add (k*sz))) (l.drop k).length ((l.drop k).flatMap f):=by
 have h1:=h.from hk hc
 rwa [Wi f sz hf,←List.length_drop] at h1
theorem Rd.Wm {α:Type} {f:α→List Value} {size:Nat} (hf:∀x,(f x).length=size) {w:World} {B n g o:Nat} {l:List α} (h:Rd w B size (some ⟨g,o,none⟩) n (l.flatMap f)) {k j m:Nat} {x:α} {ys:List Value} (hk:l[k]?=some x) (hy:((f x).drop j).take m=ys):w.rangeAt g (o+k*size+j) ys:=fun i u hu=>by
 rw [←hy,List.getElem?_take] at hu
 split at hu
 ·rw [List.getElem?_drop] at hu
  have h1:=h.q8 hf hk (j+i) u hu
  rwa [←Nat.add_assoc] at h1
 ·cases hu
theorem CY {α:Type} {l:List α} {k:Nat} (d:α) (h:k<l.length):l.take (k+1)=l.take k++[l.getD k d]:=by
 rw [List.take_succ_eq_append_getElem h,List.getD_eq_getElem?_getD,List.getElem?_eq_getElem h]
 rfl
section
variable {P:Program} {Q:Exit→Act→World→Prop} {a:Act} {W w:World} {n d:Nat} {D:List Deferred} {σ:List (Nat×Value)} {o:Oper} {K:Act→World→Prop} {fs:List Fact} {S:World→Prop}
theorem Yl.cap {x:Operand} {t:TypeId} {A:Option Addr} {m c:Nat} (hop:o.op= .call {callee:= .builtin .cap,args:= #[x],argTypes:= #[t]}) (hx:look σ x=some (.slice A m c)) (ht:kE P t=true):Yl P S σ o (.int .i64 (c:Int)):=fun a n D Z w hS=>by
 unfold kE at ht
 split at ht
 ·rename_i e hu
  unfold execOp
  simp [hop,resolve,invoke,builtin,Z.eval hx,Builtin.cap_,run_underlying hu,goInt]
 ·cases ht
theorem qmf (Z:Fr a n D σ) (HM:Mem W w fs) {s x:Operand} {t tn e:TypeId} {z:Value} {size bytes m:Nat} {kn k:IntKind} (hop:o.op= .call {callee:= .builtin .append,args:= #[s,x],argTypes:= #[t,tn]}) (ei:EI P t e z size bytes) (htn:P.underlying tn=some (.int kn))
  (hs:look σ s=some (.slice none 0 0)) (hx:look σ x=some (.int k (m:Int))) (h0:0<m) (h63:m≤4611686018427387904) (hb:m*bytes≤281474976710656)
  (hd:o.dst=some d) (hdn:d<n) (kk:∀a' w' g c',Fr a' n D ((d,.slice (some ⟨g,0,none⟩) m c')::σ)→Mem W w' (.row (.slice (some ⟨g,0,none⟩) m c') m (Builtin.zeroCells z.cells m).toList e size::fs)→m≤c'→K a' w'):o.wp P a w K Q:=by
 obtain ⟨i,hi,hz,hsz,hby⟩:=info_parts ei.hi
 have hr:=Lib.run_append_nil_zeros (P:=P) w t tn o.type e i z k kn ei.ht htn hi hz m h0 (by rw [hsz];exact ei.hs) om (by rw [hby];exact hb)
 have h1:m≤grownCap w m 0 e:=grownCap_ge w m 0 e
 have h2:grownCap w m 0 e≤maxLen:=grownCap_le_maxLen w m 0 e (by unfold maxLen;omega)
 have hzl:(Builtin.zeroCells z.cells m).size=m*size:=by rw [size_zeroCells,ei.hz]
 have hown:(w.drew.alloc (.cells (Builtin.zeroCells z.cells m++Builtin.zeroCells z.cells (grownCap w m 0 e-m)) e)).ownsRow w.heap.size e size (.slice (some ⟨w.heap.size,0,none⟩) m (grownCap w m 0 e)) m (Builtin.zeroCells z.cells m).toList:=by
  refine ⟨by simpa using hzl,.inr ⟨w.heap.size,_,_,rfl,Nat.le_refl _,World.alloc_heap_new w.drew _,h1,h2,?_,?_⟩⟩
  ·rw [Array.size_append,hzl,size_zeroCells,ei.hz,←Nat.add_mul]
   congr 1
   omega
  ·rw [Array.toList_append,←hzl,←Array.length_toList]
   exact List.take_left
 unfold Oper.wp execOp
 simp only [hop,resolve,invoke,builtin,Sem.run_bind,Sem.run_pure,Result.andThen_ok,List.map_toArray,List.map_cons,List.map_nil,Z.eval hs,Z.eval hx,hr]
 rw [Oper.upon_value,hd]
 exact kk _ _ w.heap.size _ (Z.put hdn _) (HM.aQ ((Below.refl _ _).drew.alloc (by simp) _) hown) h1
theorem Mem.shrink (h:Mem W w fs) {i m k c size:Nat} {A:Option Addr} {e:TypeId} {xs:List Value} (hi:fs[i]?=some (.row (.slice A m c) m xs e size)) (hk:k≤m) (hA:A=none→k=0∧c=0):Mem W w (fs.set i (.row (.slice A k c) k (xs.take (k*size)) e size)):=by
 have ho:=h.own hi
 refine h.turn hi h.below (fun _ _ _=>rfl) ?_ (fun g' hg'=> .inl (by cases A<;>exact hg'))
 refine ⟨by rw [List.length_take,ho.1];exact Nat.min_eq_left (Nat.mul_le_mul_right _ hk),?_⟩
 rcases ho.2 with ⟨h1,h2⟩|⟨g,cap,cur,h1,h2,h3,h4,h5,h6,h7⟩
 ·injection h1 with h1 _ _
  obtain ⟨rfl,rfl⟩:=hA h1
  subst h1
  exact .inl ⟨rfl,rfl⟩
 ·injection h1 with h1 _ h8
  subst h1;subst h8
  refine .inr ⟨g,c,cur,rfl,h2,h3,by omega,h5,h6,?_⟩
  rw [←h7,List.take_take,Nat.min_eq_left (Nat.mul_le_mul_right _ hk)]
end
theorem Sv {m n j:Nat} (hm:m<2^j):m|||n*2^j=m+n*2^j:=by
 have:=Nat.two_pow_add_eq_or_of_lt hm n
 rw [Nat.or_comm,Nat.mul_comm n,←this,Nat.add_comm]
theorem LX {m n j p:Nat} (hp:2^j=p) (hm:m<p) (hb:m+n*p<4294967296):Value.int .u32 (Go.IntKind.u32.wrap (BitVec.ofInt Go.IntKind.u32.bits (m:Int)|||BitVec.ofInt Go.IntKind.u32.bits ((n*p:Nat):Int)).toNat)= .int .u32 ((m+n*p:Nat):Int):=by
 subst hp
 have h:=q6a (m:=m) (n:=n*2^j) om om
 rw [Sv hm] at h
 exact h
theorem q0p {m n j p:Nat} (hp:2^j=p) (hm:n<p) (hb:m*p+n<9223372036854775808):Value.int .i64 (Go.IntKind.i64.wrap (BitVec.ofInt Go.IntKind.i64.bits ((m*p:Nat):Int)|||BitVec.ofInt Go.IntKind.i64.bits (n:Int)).toNat)= .int .i64 ((m*p+n:Nat):Int):=by
 subst hp
 have h:=q6b (m:=m*2^j) (n:=n) om om
 rw [Nat.or_comm,Sv hm,Nat.add_comm] at h
 exact h
structure Part where
 A:Option Addr
 c:Nat
 l:List Nat
def Part.val (p:Part):Value:= .slice p.A p.l.length p.c
theorem Eb {l:List Part} {k:Nat} {d:Part} (h:k<l.length):(l.take (k+1)).flatMap (·.l)=(l.take k).flatMap (·.l)++(l.getD k d).l:=by
 rw [List.take_add_one,getD_at d h];simp
theorem Ec {l:List Part} (k:Nat):((l.take k).flatMap (·.l)).length≤(l.flatMap (·.l)).length:=by
 conv=>rhs;rw [←List.take_append_drop k l]
 rw [List.flatMap_append,List.length_append]
 omega
def mD (n:Nat):List Nat:=[n%256,n/256%256,n/65536%256,n/16777216%256]
def bI (l:List Nat):List Nat:=l++mD (qo l)
def dS (l:List Nat):Nat:=l.getD 0 0+256*l.getD 1 0+65536*l.getD 2 0+16777216*l.getD 3 0
def mE (l:List Nat):Bool:=decide (4≤l.length∧qo (l.take (l.length-4))=dS (l.drop (l.length-4)))
theorem Mi (k:Nat) (h:k<16):pI.getD k 0<4294967296:=by
 have:∀k,k<16→pI.getD k 0<4294967296:=by decide
 exact this k h
def Is (w:World) (v:Value) (r:Ending) (w':World):Prop:=r= .returned v∧Below w.heap.size w w'
def zh (w:World) (R:List Nat) (r:Ending) (w':World):Prop:=
 (∃A c,r= .returned (.slice A R.length c)∧w'.ownsRow w.heap.size 5 1 (.slice A R.length c) R.length (R.map B8)∧R.length≤c)∧Below w.heap.size w w'
theorem zh.as {w w':World} {R R':List Nat} {r:Ending} (h:zh w R r w') (e:R=R'):zh w R' r w':=e▸h
theorem Tg {w w':World} {R xs:List Nat} {n c:Nat} {A:Option Addr} (ho:w'.ownsRow w.heap.size 5 1 (.slice A n c) n (xs.map B8)) (hc:n≤c) (hn:n=R.length) (hx:xs=R) (hb:Below w.heap.size w w'):zh w R (.returned (.slice A n c)) w':=by
 subst hx;subst hn
 exact ⟨⟨A,c,rfl,ho,hc⟩,hb⟩
theorem qtq {x:Nat} {w:World} (hx:x<18446744073709551616):Calls Tryz.prog 109 #[.slice none 0 0,.int .u64 (x:Int)] w (zh w (ak x)):=
 (Rq x w w.heap.size (.slice none 0 0) 0 [] hx (World.ownsRow_nil _ _ _ _) (Nat.le_refl _) om).mono fun e w' ⟨v, h1, h2, h3, _⟩ => by
  rw [Nat.zero_add,List.nil_append] at h2
  obtain ⟨A,c,rfl,hc⟩:=zw h2
  exact ⟨⟨A,c,h1,h2,hc⟩,(Below.refl _ _).grown h3 (Nat.le_refl _) (fun g hg=>by cases hg)⟩
theorem Mj (A:Option Addr) (n c:Nat) (ls:List Nat) (w:World) (hr:Rd w w.heap.size 1 A n (ls.map dB)) (hls:∀x∈ls,x<18446744073709551616) (hn:10*n≤140737488355000):
  Calls Tryz.prog 49 #[.slice A n c] w (zh w (ls.flatMap ak)):=
 (qno A n c ls w hr hls hn).mono fun e w' ⟨v, h1, h2, h3⟩ => by
  obtain ⟨A,c,rfl,hc⟩:=zw h2
  exact ⟨⟨A,c,h1,h2,hc⟩,h3⟩
theorem qqk (c:Nat) (l:List Nat) (x:Nat):qt c (l++[x])=yS (qt c l) x:=by unfold qt;rw [List.foldl_append];rfl
theorem Ti {c k:Nat} {l:List Nat} (h:k<l.length):qt c (l.take (k+1))=yS (qt c (l.take k)) (l.getD k 0):=by
 rw [List.take_add_one,getD_at 0 h];exact qqk _ _ _
theorem zl {l:List Nat} {m:Nat} (h:∀b∈l,b<m) (k:Nat):∀b∈l.take k,b<m:=fun b hb=>h b (List.mem_of_mem_take hb)
theorem zj {l:List Nat} {m:Nat} (h:∀b∈l,b<m) (k:Nat):∀b∈l.drop k,b<m:=fun b hb=>h b (List.mem_of_mem_drop hb)
theorem q6c {c:Nat} (h:c<4294967296):nJ c<4294967296:=Ep om (Mi _ om)
theorem Mk (l:List Nat):qo l<4294967296:=by unfold qo;omega
theorem Tj (n:Nat):∀b∈mD n,b<256:=by intro b hb;simp [mD] at hb;omega
theorem Tn (n:Nat):(mD n).length=4:=rfl
theorem IC (l:List Nat):(bI l).length=l.length+4:=by unfold bI;rw [List.length_append,Tn]
theorem Tp {l:List Nat} (hl:∀b∈l,b<256):∀b∈bI l,b<256:=by
 intro b hb
 rcases List.mem_append.1 hb with h|h
 ·exact hl b h
 ·exact Tj _ b h
theorem Tq:∀{l:List Nat},(∀x∈l,x<256)→4≤l.length→mD (dS l)=l.take 4
 |a::b::c::d::r,hl,_=>by
  have ha:=hl a (by simp)
  have hb:=hl b (by simp)
  have hc:=hl c (by simp)
  have hd:=hl d (by simp)
  simp [mD,dS]
  omega
 |[],_,h=>by simp at h
 |[_],_,h=>by simp at h
 |[_,_],_,h=>by simp at h
 |[_,_,_],_,h=>by simp at h
theorem q05 {n:Nat} (h:n<4294967296) (r:List Nat):dS (mD n++r)=n:=by simp [dS,mD];omega
theorem q06 {l:List Nat} (hl:∀x∈l,x<256) (h:4≤l.length):mD (dS (l.drop (l.length-4)))=l.drop (l.length-4):=by
 have h1:(l.drop (l.length-4)).length=4:=by rw [List.length_drop];omega
 rw [Tq (zj hl _) om,List.take_of_length_le om]
theorem Tt {l:List Nat} (hl:∀x∈l,x<256) (h:mE l=true):bI (l.take (l.length-4))=l:=by
 unfold mE at h
 rw [decide_eq_true_eq] at h
 unfold bI
 rw [h.2,q06 hl h.1,List.take_append_drop]
theorem qql {l:List Nat}:mE (bI l)=true:=by
 have hlt:qo l<4294967296:=Mk l
 have e:(bI l).length-4=l.length:=by rw [IC];omega
 unfold mE
 rw [decide_eq_true_eq,e]
 unfold bI
 refine ⟨by rw [List.length_append,Tn];omega,?_⟩
 rw [List.take_left,List.drop_left]
 have:=q05 hlt []
 rw [List.append_nil] at this
 exact this.symm
theorem yT (x:Nat):∀b∈ak x,b<256:=by
 intro b hb
 unfold ak at hb
 obtain ⟨p,hp,rfl⟩:=List.mem_map.1 hb
 have:=K8 10 x p hp
 unfold gW
 split<;>omega
theorem Ml {l m:List Nat} (hl:∀b∈l,b<256) (hm:∀b∈m,b<256):((eT l).toList==(eT m).toList)=decide (l=m):=by
 rw [Bool.eq_iff_iff,beq_iff_eq,decide_eq_true_eq]
 constructor
 ·intro h
  refine ZY hl hm ?_
  rw [ByteArray.toList_eq,ByteArray.toList_eq] at h
  cases hx:eT l;cases hy:eT m
  rw [hx,hy] at h
  simpa using h
 ·rintro rfl;rfl
set_option linter.all false
def Nt (P:Program) (t:TypeId):Bool:=match P.underlying t with
 |some (.array n e)=>n==2&& (P.cellsOf e==1&& (fT P e&&match P.underlying e with
  |some (.int _)=>true
  |_=>false))
 |_=>false
theorem q1y {P:Program} {t:TypeId} (ht:Nt P t=true) {k:Go.IntKind} (a b c d:Int) (w:World):
  (Op.equal t (.agg #[.int k a,.int k b]) (.agg #[.int k c,.int k d])).run P w= .ok (a==c&&b==d) w:=by
 unfold Nt at ht
 split at ht
 ·rename_i n e hu
  simp only [Bool.and_eq_true,beq_iff_eq] at ht
  obtain ⟨h1,h2,h3,h4⟩:=ht
  subst h1
  split at h4
  ·rename_i k' hk
   obtain ⟨i,hi⟩:=info_of_underlying hk
   show (Op.equalIn (9999+1) t _ _).run P w=_
   rw [run_equalIn_array w 9999 _ _ hu hi,h2]
   have hp:∀(xs:Array Value) (j:Nat) (v:Value),xs[j]?=some v→(part e xs j).run P w= .ok v w:=fun xs j v h=>by
    unfold part
    simp [Io h3,h]
   have he:∀x y,(Op.equalIn 9999 e (.int k x) (.int k y)).run P w= .ok (x==y) w:=fun x y=>run_equalIn_int w 9998 e k k' x y hk
   show (Op.eqItems 9999 e 1 _ _ [0,1]).run P w=_
   have p1:(part e #[.int k a,.int k b] 0).run P w= .ok (.int k a) w:=hp _ _ _ rfl
   have p2:(part e #[.int k c,.int k d] 0).run P w= .ok (.int k c) w:=hp _ _ _ rfl
   have p3:(part e #[.int k a,.int k b] 1).run P w= .ok (.int k b) w:=hp _ _ _ rfl
   have p4:(part e #[.int k c,.int k d] 1).run P w= .ok (.int k d) w:=hp _ _ _ rfl
   have q1:=he a c
   have q2:=he b d
   generalize (9999:Nat)=dd at q1 q2⊢
   simp only [Op.eqItems,Sem.run_bind,Nat.zero_mul,Nat.one_mul,p1,p2,q1,Result.andThen_ok]
   cases h5:(a==c)<;>cases h6:(b==d)<;>simp [p3,p4,q2,h6]
  ·cases h4
 ·cases ht
section
variable {P:Program} {S:World→Prop} {σ:List (Nat×Value)} {o:Oper}
theorem qoo {t:TypeId} (hg:P.eqGuardType P.depth t=false) (op:BinOp) (x y:Operand) (a b:Array Value) (w:World):(eqGuard op t x y (.agg a) (.agg b)).run P w= .ok () w:=by
 unfold eqGuard
 cases op<;>simp<;>simp [hg]
theorem Yl.q5u {t u:TypeId} {p q:Operand} {k:Go.IntKind} {a b c d:Int} (hop:o.op= .binOp .neq t p q u) (hx:look σ p=some (.agg #[.int k a,.int k b])) (hy:look σ q=some (.agg #[.int k c,.int k d])) (ht:Nt P t=true) (hg:P.eqGuardType P.depth t=false):Yl P S σ o (.bool (!(a==c&&b==d))):=fun ac n D Z w hS=>by
 unfold execOp
 have e:(binOp .neq t (.agg #[.int k a,.int k b]) (.agg #[.int k c,.int k d])).run P w= .ok (.bool (!(a==c&&b==d))) w:=by
  show ((do Pure.pure (.bool (!(←Op.equal t (.agg #[.int k a,.int k b]) (.agg #[.int k c,.int k d])))):Sem Value)).run P w=_
  simp [q1y ht]
 simp only [hop,Z.eval hx,Z.eval hy,Sem.run_bind,qoo hg,Result.andThen_ok,e,Sem.run_pure]
end
theorem q6n {w:World} {B n g o k:Nat} {l:List Nat} (h:Rd w B 1 (some ⟨g,o,none⟩) n (l.map B8)) (hk:k+2≤l.length):w.rangeAt g (o+k) (#[B8 (l.getD k 0),B8 (l.getD (k+1) 0)]:Array Value).toList:=fun j v hv=>by
 have hr:=h.range
 rw [Nat.add_assoc]
 refine hr (k+j) v ?_
 rcases j with _|_|j
 ·simp at hv
  rw [Nat.add_zero,←hv]
  exact lW (getD_at 0 om)
 ·simp at hv
  rw [←hv]
  exact lW (getD_at 0 om)
 ·simp at hv
section
variable {P:Program} {S:World→Prop} {σ:List (Nat×Value)} {o:Oper}
theorem Yl.Fv {t u:TypeId} {x y:Operand} {k k':Go.IntKind} {m n:Nat} (hop:o.op= .binOp .shr t x y u) (hx:look σ x=some (.int k (m:Int))) (hy:look σ y=some (.int k' (n:Int))) (hn:n≤k.bits):Yl P S σ o (.int k ((m/2^n:Nat):Int)):=fun a N D Z w hS=>by
 have hb:qR .shr (.int k (m:Int)) (.int k' (n:Int))=some (.int k ((m/2^n:Nat):Int)):=by
  show (if (n:Int)<0 then none else some (Value.int k (Int.fdiv (m:Int) (2^ (Min.min (n:Int).toNat k.bits)))))=_
  rw [if_neg om]
  exact congrArg some (yI k m (j:=n) rfl (by rw [Int.toNat_natCast,Nat.min_eq_left hn]))
 unfold execOp
 simp [hop,Z.eval hx,Z.eval hy,wM (P:=P) .shr t x y (a:= .int k (m:Int)) rfl,Ih hb t]
theorem Yl.NA {t u:TypeId} {x y:Operand} {k k':Go.IntKind} {m n:Nat} (hop:o.op= .binOp .shl t x y u) (hx:look σ x=some (.int k (m:Int))) (hy:look σ y=some (.int k' (n:Int))) (hn:n≤k.bits) (hm:m*2^n≤iW k):Yl P S σ o (.int k ((m*2^n:Nat):Int)):=fun a N D Z w hS=>by
 have hb:qR .shl (.int k (m:Int)) (.int k' (n:Int))=some (.int k ((m*2^n:Nat):Int)):=by
  show (if (n:Int)<0 then none else some (Value.int k (k.wrap ((m:Int)*2^ (Min.min (n:Int).toNat k.bits)))))=_
  rw [if_neg om]
  have e:(m:Int)*2^ (Min.min (n:Int).toNat k.bits)=((m*2^n:Nat):Int):=by rw [Int.toNat_natCast,Nat.min_eq_left hn];norm_cast
  rw [e,uE k hm]
 unfold execOp
 simp [hop,Z.eval hx,Z.eval hy,wM (P:=P) .shl t x y (a:= .int k (m:Int)) rfl,Ih hb t]
end
section
variable {P:Program} {S:World→Prop} {σ:List (Nat×Value)} {o:Oper} {v:Value}
def LY (P:Program) (t:TypeId):Bool:=match P.underlying t with
 |some (.pointer _)=>true
 |_=>false
theorem qwd {t:TypeId} {a:Option Addr} (ht:LY P t=true) (w:World):(Op.equal t (.pointer a) (.pointer none)).run P w= .ok a.isNone w:=by
 unfold LY at ht
 split at ht
 ·rename_i hu
  show (Op.equalIn (9999+1) t (.pointer a) (.pointer none)).run P w=_
  unfold Op.equalIn
  cases a<;>simp only [Sem.run_bind,run_underlying hu,Result.andThen_ok]<;>rfl
 ·cases ht
theorem q0q {t:TypeId} {a:Option Addr} {m c m' c':Nat} (ht:kE P t=true) (w:World):(Op.equal t (.slice a m c) (.slice none m' c')).run P w= .ok a.isNone w:=by
 unfold kE at ht
 split at ht
 ·rename_i hu
  show (Op.equalIn (9999+1) t (.slice a m c) (.slice none m' c')).run P w=_
  unfold Op.equalIn
  cases a<;>simp only [Sem.run_bind,run_underlying hu,Result.andThen_ok]<;>rfl
 ·cases ht
theorem Yl.oI {b:Bool} {t u:TypeId} {x y:Operand} {a:Option Addr} (hop:o.op= .binOp .eql t x y u) (hx:look σ x=some (.pointer a)) (hy:look σ y=some (.pointer none)) (hb:a.isNone=b:=by rfl) (ht:LY P t=true:=by kernel_rfl):Yl P S σ o (.bool b):=fun _ n D Z w hS=>by
 subst hb
 unfold execOp
 have e:(binOp .eql t (.pointer a) (.pointer none)).run P w= .ok (.bool a.isNone) w:=by
  show ((do Pure.pure (.bool (←Op.equal t (.pointer a) (.pointer none))):Sem Value)).run P w=_
  simp [qwd ht]
 simp only [hop,Z.eval hx,Z.eval hy,Sem.run_bind,wM (P:=P) .eql t x y (a:= .pointer a) rfl,Result.andThen_ok,e,Sem.run_pure]
theorem Yl.q7j {b:Bool} {t u:TypeId} {x y:Operand} {a:Option Addr} {m c m' c':Nat} (hop:o.op= .binOp .eql t x y u) (hx:look σ x=some (.slice a m c)) (hy:look σ y=some (.slice none m' c')) (hb:a.isNone=b:=by rfl) (ht:kE P t=true:=by kernel_rfl):Yl P S σ o (.bool b):=fun _ n D Z w hS=>by
 subst hb
 unfold execOp
 have e:(binOp .eql t (.slice a m c) (.slice none m' c')).run P w= .ok (.bool a.isNone) w:=by
  show ((do Pure.pure (.bool (←Op.equal t (.slice a m c) (.slice none m' c'))):Sem Value)).run P w=_
  simp [q0q ht]
 simp only [hop,Z.eval hx,Z.eval hy,Sem.run_bind,wM (P:=P) .eql t x y (a:= .slice a m c) rfl,Result.andThen_ok,e,Sem.run_pure]
theorem Yl.nilCheck {x:Operand} {p:Addr} (hop:o.op= .nilCheck x) (hx:look σ x=some (.pointer (some p))):Yl P S σ o (.pointer (some p)):=fun _ n D Z w hS=>by
 unfold execOp
 simp only [hop,Z.eval hx]
 rfl
end
def oJ (P:Program) (t:TypeId) (cs:Array Value) (off:Nat):Option Value:=
 match P.underlying t,P.info? t with
 |some (.struct _),some i=>some (.agg (cs.extract off (off+i.size)))
 |some (.int _),_=>cs[off]?
 |some .bool,_=>cs[off]?
 |some .string,_=>cs[off]?
 |_,_=>none
def yK (P:Program) (eq:TypeId→Value→Value→Option Bool) (xs ys:Array Value):List Field→Option Bool
 |[]=>some true
 | f :: fs => if f.name = "_" then none else
  match oJ P f.type xs f.offset,oJ P f.type ys f.offset with
  |some a,some b=>match eq f.type a b,yK P eq xs ys fs with
   |some r,some s=>some (r&&s)
   |_,_=>none
  |_,_=>none
def nC (P:Program):Nat→TypeId→Value→Value→Option Bool
 |0,_,_,_=>none
 |d+1,t,x,y=>match P.underlying t,x,y with
  |some (.int _),.int k a,.int k' b=>if k=k' then some (a==b) else none
  |some .bool,.bool a,.bool b=>some (a==b)
  |some .string,.string a,.string b=>some (a.toList==b.toList)
  |some (.struct fs),.agg xs,.agg ys=>if P.stoodInHeld t then none else yK P (nC P d) xs ys fs.toList
  |_,_,_=>none
theorem Sw {P:Program} {t:TypeId} {cs:Array Value} {off:Nat} {v:Value} (h:oJ P t cs off=some v) (w:World):(part t cs off).run P w= .ok v w:=by
 unfold oJ at h
 split at h
 ·rename_i fs i hu hi
  injection h with h;subst h
  simp [part,isAgg,run_underlying hu,sizeOf,typeInfo,hi]
 ·rename_i k _ hu
  simp [part,isAgg,run_underlying hu,h]
 ·rename_i _ hu
  simp [part,isAgg,run_underlying hu,h]
 ·rename_i _ hu
  simp [part,isAgg,run_underlying hu,h]
 ·cases h
theorem Sy {P:Program} {d:Nat} (ih:∀(t:TypeId) (x y:Value) (b:Bool),nC P d t x y=some b→∀w,(Op.equalIn d t x y).run P w= .ok b w) {xs ys:Array Value}:∀(fs:List Field) (b:Bool),yK P (nC P d) xs ys fs=some b→∀w,(Op.eqFields d xs ys fs).run P w= .ok b w
 |[],b,h,w=>by
  injection h with h;subst h;rfl
 | f :: fs, b, h, w => by
  unfold yK at h
  split at h
  ·cases h
  ·rename_i hn
   split at h
   ·rename_i p q hp hq
    split at h
    ·rename_i r s hr hs
     injection h with h;subst h
     unfold Op.eqFields
     rw [if_pos hn]
     simp only [Sem.run_bind,Sw hp,Sw hq,ih _ _ _ _ hr,Result.andThen_ok]
     cases r
     ·simp
     ·simp [Sy ih fs s hs w]
    ·cases h
   ·cases h
theorem Sz {P:Program}:∀(d:Nat) (t:TypeId) (x y:Value) (b:Bool),nC P d t x y=some b→∀w,(Op.equalIn d t x y).run P w= .ok b w
 |0,_,_,_,_,h,_=>by cases h
 | d + 1, t, x, y, b, h, w => by
  unfold nC at h
  split at h
  ·rename_i k' k a k2 b' hu
   split at h
   ·rename_i hk;subst hk;injection h with h;subst h;exact run_equalIn_int w d t _ _ _ _ hu
   ·cases h
  ·rename_i a b' hu;injection h with h;subst h;exact run_equalIn_bool' w d t _ _ hu
  ·rename_i a b' hu;injection h with h;subst h;exact run_equalIn_string w d t _ _ hu
  ·rename_i fs xs ys hu
   split at h
   ·cases h
   ·rename_i hs
    have hf:P.fieldsOf t=fs:=by unfold Program.fieldsOf;rw [hu]
    rw [run_equalIn_struct w d t xs ys (by rw [hu,hf]) (by simpa using hs),hf]
    exact Sy (Sz d) _ _ h w
  ·cases h
theorem SA {P:Program}:∀(d:Nat) (t:TypeId) (x y:Value) (b:Bool),nC P d t x y=some b→nC P (d+1) t x y=some b
 |0,_,_,_,_,h=>by cases h
 | d + 1, t, x, y, b, h => by
  have hf : ∀ (fs : List Field) (xs ys : Array Value) (b : Bool), yK P (nC P d) xs ys fs = some b → yK P (nC P (d + 1)) xs ys fs = some b := by
   intro fs
   induction fs with
   |nil=>intro xs ys b h;exact h
   | cons f fs ih =>
    intro xs ys b h
    unfold yK at h⊢
    split at h
    ·cases h
    ·rename_i hn
     rw [if_neg hn]
     split at h
     ·rename_i p q hp hq
      split at h
      ·rename_i r s hr hs
       injection h with h;subst h
       simp only [SA d _ _ _ _ hr,ih _ _ _ hs]
      ·cases h
     ·cases h
  unfold nC at h⊢
  split at h
  ·rename_i hu;(try simp only [hu]);exact h
  ·rename_i hu;(try simp only [hu]);exact h
  ·rename_i hu;(try simp only [hu]);exact h
  ·rename_i fs xs ys hu
   (try simp only [hu])
   split at h
   ·cases h
   ·rename_i hs
    rw [if_neg hs]
    exact hf _ _ _ _ h
  ·cases h
theorem SB {P:Program} {d:Nat} {t:TypeId} {x y:Value} {b:Bool} (h:nC P d t x y=some b):∀k,nC P (d+k) t x y=some b
 |0=>h
 |k+1=>SA _ _ _ _ _ (SB h k)
section
variable {P:Program} {S:World→Prop} {σ:List (Nat×Value)} {o:Oper} {b:Bool}
theorem qqf {t:TypeId} {xs ys:Array Value} {d:Nat} (h:nC P d t (.agg xs) (.agg ys)=some b) (hd:d≤10000) (w:World):(Op.equal t (.agg xs) (.agg ys)).run P w= .ok b w:=by
 unfold Op.equal
 have h2:=SB h (10000-d)
 rw [show d+(10000-d)=10000 by omega] at h2
 exact Sz _ _ _ _ _ h2 w
theorem qqg {t:TypeId} (hm:P.eqGuardType P.depth t=false) (op:BinOp) (x y:Operand) (a c:Array Value) (w:World):(eqGuard op t x y (.agg a) (.agg c)).run P w= .ok () w:=run_eqGuard_agg w op t x y a c hm
theorem Yl.q7a {t u:TypeId} {p q:Operand} {xs ys:Array Value} {d:Nat} (hop:o.op= .binOp .neq t p q u) (hx:look σ p=some (.agg xs)) (hy:look σ q=some (.agg ys)) (h:nC P d t (.agg xs) (.agg ys)=some b) (hd:d≤10000:=by decide) (hm:P.eqGuardType P.depth t=false:=by kernel_rfl):Yl P S σ o (.bool !b):=fun a n D Z w hS=>by
 unfold execOp
 have e:(binOp .neq t (.agg xs) (.agg ys)).run P w= .ok (.bool !b) w:=by
  show ((do Pure.pure (.bool (!(←Op.equal t (.agg xs) (.agg ys)))):Sem Value)).run P w=_
  simp [qqf h hd]
 simp only [hop,Z.eval hx,Z.eval hy,Sem.run_bind,qqg hm,Result.andThen_ok,e,Sem.run_pure]
end
section
variable {P:Program} {S:World→Prop} {σ:List (Nat×Value)} {o:Oper} {t:TypeId} {n sz:Nat}
end
section
variable {P:Program} {ops:Array Oper} {Q:Exit→Act→World→Prop} {a:Act} {W w:World} {n i j d fuel:Nat} {D:List Deferred} {σ σ':List (Nat×Value)} {o:Oper} {v:Value} {md:Region.Mode} {S:World→Prop} {K:Act→World→Prop} {listed:Array Bool} {fs fs':List Fact} {ex:List Nat}
theorem Yl.o1 {α:Type} {F:α→Value} {l:List α} {g of m:Nat} {t:TypeId} {x:Operand} (hr:Rd W W.heap.size 1 (some ⟨g,of,none⟩) m (l.map F)) (kk:Nat) (dd:α) (hk:kk<l.length) (hop:o.op= .load t x) (hx:look σ x=some (.pointer (some ⟨g,of+kk*1,none⟩))) (ht:fT P t=true:=by kernel_rfl) (hv:F (l.getD kk dd)=v:=by exact rfl):Yl P (fun wS=>Mem W wS fs) σ o v:=by
 subst hv
 exact Yl.qn hop hx ht fun _ h=>(h.old hr).uD (k:=kk) (lW (getD_at dd hk))
theorem Yl.r1 {α:Type} {F:α→Value} {l:List α} {g m c:Nat} {t e:TypeId} {x:Operand} (j kk:Nat) (dd:α) (hk:kk<l.length) (hop:o.op= .load t x) (hx:look σ x=some (.pointer (some ⟨g,kk*1,none⟩))) (hi:fs[j]?=some (.row (.slice (some ⟨g,0,none⟩) m c) m (l.map F) e 1)) (ht:fT P t=true:=by kernel_rfl) (hv:F (l.getD kk dd)=v:=by exact rfl):Yl P (fun wS=>Mem W wS fs) σ o v:=by
 subst hv
 exact Yl.qn hop hx ht fun _ h=>h.Ch hi (lW (getD_at dd hk))
def bt (n:Nat) (l:List Nat):Array Bool:=((List.range n).map fun i=> !l.contains i).toArray
def bf (n:Nat) (l:List Nat):Array Bool:=((List.range n).map fun i=>l.contains i).toArray
theorem cB (Z:Fr a n D σ) (hS:S w) (i:Nat) (ho:ops[i]?=some o) (hy:Yl P S σ o v) (k:∀a',Fr a' n D ((d,v)::σ)→qk P md ops Q S ex fuel (listed.setIfInBounds i true) a' w) (hw:bX ops σ o=some true:=by exact rfl) (hd:o.dst=some d:=by exact rfl)
  (hdn:d<n:=by decide) (hok:wP md ops ex listed i=true:=by kernel_rfl) (hQ:∀c (a:Act) w,Q (.panic c) (a.put o.dst v) w→Q (.panic c) a w:=by intro _ _ _ h;exact h):qk P md ops Q S ex (fuel+1) listed a w:=D5 Z hS ho hw hd hdn hok hQ hy k
theorem jA {t:TypeId} {x:Operand} {g off:Nat} {cs:Array Value} {tb:TypeId} (Z:Fr a n D σ) (hS:Mem W w fs) (i j:Nat) (k:∀a',Fr a' n D ((d,v)::σ)→qk P md ops Q (fun wS=>Mem W wS fs) ex fuel (listed.setIfInBounds i true) a' w) (ho:ops[i]?=some o:=by exact rfl) (hop:o.op= .load t x:=by exact rfl) (hx:look σ x=some (.pointer (some ⟨g,off,none⟩)):=by exact rfl) (hi:fs[j]?=some (.blk g cs tb):=by exact rfl) (hv:cs[off]?=some v:=by exact rfl) (hw:bX ops σ o=some true:=by exact rfl) (hd:o.dst=some d:=by exact rfl)
  (ht:fT P t=true:=by kernel_rfl) (hdn:d<n:=by decide) (hok:wP md ops ex listed i=true:=by kernel_rfl) (hQ:∀c (a:Act) w,Q (.panic c) (a.put o.dst v) w→Q (.panic c) a w:=by intro _ _ _ h;exact h):qk P md ops Q (fun wS=>Mem W wS fs) ex (fuel+1) listed a w:=D5 Z hS ho hw hd hdn hok hQ (Yl.qn hop hx ht fun _ h=>h.cell hi hv) k
theorem ru {t:TypeId} {x:Operand} {A:Option Addr} {m c:Nat} (Z:Fr a n D σ) (hS:S w) (i:Nat) (k:∀a',Fr a' n D ((d,.int .i64 (m:Int))::σ)→qk P md ops Q S ex fuel (listed.setIfInBounds i true) a' w) (ho:ops[i]?=some o:=by exact rfl) (hop:o.op= .call {callee:= .builtin .len,args:= #[x],argTypes:= #[t]}:=by exact rfl) (hx:look σ x=some (.slice A m c):=by exact rfl) (hw:bX ops σ o=some true:=by exact rfl) (hd:o.dst=some d:=by exact rfl)
  (ht:kE P t=true:=by kernel_rfl) (hdn:d<n:=by decide) (hok:wP md ops ex listed i=true:=by kernel_rfl) (hQ:∀c (a:Act) w,Q (.panic c) (a.put o.dst (.int .i64 (m:Int))) w→Q (.panic c) a w:=by intro _ _ _ h;exact h):qk P md ops Q S ex (fuel+1) listed a w:=D5 Z hS ho hw hd hdn hok hQ (Yl.len hop hx ht) k
theorem s_on (Z:Fr a n D σ) (i:Nat) (ho:ops[i]?=some o) (h:o.wp P a w (fun a' w'=>(bP ex (listed.setIfInBounds i true)=false→S w')∧qk P md ops Q S ex fuel (listed.setIfInBounds i true) a' w') Q) (hr:Region.ready md ops listed=[i]:=by kernel_rfl) (hw:bX ops σ o=some true:=by exact rfl):qk P md ops Q S ex (fuel+1) listed a w:=pE [i] hr rfl (all_cons (jl Z ho hw h) all_nil)
theorem mo {f:FuncId} {xs:Array Operand} {ts:Array TypeId} {V:Option Addr→Nat→Value} {m sz:Nat} {e:TypeId} {ys:List Value} (Z:Fr a n D σ) (HM:Mem W w fs) (vs:List Value) (hC:Calls P f vs.toArray w (fun r w'=>(∃A c,r= .returned (V A c)∧w'.ownsRow w.heap.size e sz (.slice A m c) m ys∧m≤c)∧Below w.heap.size w w'))
  (k:∀A c w',m≤c→Mem W w' (.row (.slice A m c) m ys e sz::fs)→∀a',Fr a' n D ((d,V A c)::σ)→K a' w') (hop:o.op= .call {callee:= .value (.func f),args:=xs,argTypes:=ts}:=by exact rfl) (hd:o.dst=some d:=by exact rfl) (hv:looks σ xs.toList=some vs:=by kernel_rfl) (hf:callable P f=true:=by kernel_rfl) (hdn:d<n:=by decide):o.wp P a w K Q:=
 iQ Z vs hop hd hC (fun e w' ⟨⟨A,c,h1,h2,h3⟩,h4⟩=>⟨_,h1,fun a' Z=>k A c w' h3 (HM.aQ h4 h2) a' Z⟩) hv hf hdn
theorem uT {f N:Nat} {fn:Func} {c:Code} {R:Ending→World→Prop} (hf:P.funcs[f]?=some fn) (vs:List Value) (σ0:List (Nat×Value)) (k:∀a,Fr a N [] σ0→c.wp P (bodyPost P fn R) a w) (hb:fn.body=some c:=by exact rfl) (hn:fn.ntmps=N:=by exact rfl) (hl:decide (vs.length≤N)=true:=by kernel_rfl) (h0:Ce 0 vs=σ0:=by exact rfl):Calls P f vs.toArray w R:=Cg hf hb hn hl h0 k
theorem Mem.pk (h:Mem W w fs) (is:List Nat) (hn:is.Nodup:=by decide) (he:Go.Proofs.YtekiimhdnigmcaaGreatDoor.picks fs is=fs':=by exact rfl):Mem W w fs':=h.picks is hn he
theorem Mem.pt (h:Mem W w fs) (n:Nat) (is:List Nat) (hn:is.Nodup:=by decide) (hlt:(is.all (· <n))=true:=by decide) (he:Go.Proofs.YtekiimhdnigmcaaGreatDoor.picks fs is++fs.drop n=fs':=by exact rfl):Mem W w fs':=h.R9 n is hn hlt he
theorem kF (Z:Fr a n D σ) (HM:Mem W w fs) {e:TypeId} (cs:Array Value) (k:∀a' w' g,Fr a' n D ((d,.pointer (some ⟨g,0,none⟩))::σ)→Mem W w' (.blk g cs e::fs)→K a' w') (hop:o.op= .alloc e:=by exact rfl) (hz:yG P e=some cs:=by kernel_rfl) (hd:o.dst=some d:=by exact rfl) (hdn:d<n:=by decide):o.wp P a w K Q:=LM Z HM hop hz hd hdn k
theorem gu (Z:Fr a n D σ) (HM:Mem W w fs) (i:Nat) {t:TypeId} {x y:Operand} {g off:Nat} {cs:Array Value} {tb:TypeId} (k:∀w',Mem W w' (fs.set i (.blk g (cs.setIfInBounds off v) tb))→K a w') (hop:o.op= .store t x y:=by exact rfl) (hd:o.dst=none:=by exact rfl) (hx:look σ x=some (.pointer (some ⟨g,off,none⟩)):=by exact rfl) (hy:look σ y=some v:=by exact rfl) (hs:(P.info? t).map (·.size)=some 1:=by kernel_rfl) (hv:v.oneCell'=true:=by exact rfl) (hi:fs[i]?=some (.blk g cs tb):=by exact rfl) (ho:off<cs.size:=by simp):o.wp P a w K Q:=RV Z HM hop hd hx hy hs hv hi ho k
theorem uU {t len e:Nat} {ps:Array (Nat×Operand)} {z:Value} {size bytes:Nat} (Z:Fr a n D σ) (HM:Mem W w fs) (ei:EI P t e z size bytes) (vs:List (Nat×Value)) (cs:Array Value) (k:∀a' w' g,Fr a' n D ((d,.slice (some ⟨g,0,none⟩) len len)::σ)→Mem W w' (.blk g cs e::fs)→K a' w') (hop:o.op= .buildSlice t len ps:=by exact rfl) (hl:decide (0<len∧len*size≤16777216)=true:=by decide) (hv:wT σ ps.toList=some vs:=by exact rfl)
  (hf:Instr.fill (fun i=>some (i*size,size)) (Ip z.cells (len*size)) vs=some cs:=by kernel_rfl) (hd:o.dst=some d:=by exact rfl) (hdn:d<n:=by decide):o.wp P a w K Q:=R3 Z HM hop ei hl hv hf hd hdn k
section
variable {fn:Func} {R:Ending→World→Prop} {t1 t2 t3:Nat} {v1 v2 v3:Value}
theorem jB (hr:fn.results= #[.tmp t1]) (Z:Fr a n [] σ) (h1:σ.lookup t1=some v1) (hR:R (.returned v1) w):bodyPost P fn R .ret a w:=iy hr Z (.tmp Z h1) hR
theorem jC (hr:fn.results= #[.tmp t1,.tmp t2]) (Z:Fr a n [] σ) (h1:σ.lookup t1=some v1) (h2:σ.lookup t2=some v2) (hR:R (.returned (.tuple #[v1,v2])) w):bodyPost P fn R .ret a w:=dP hr Z (.tmp Z h1) (.tmp Z h2) hR
theorem Ed (hr:fn.results= #[.tmp t1,.tmp t2,.tmp t3]) (Z:Fr a n [] σ) (h1:σ.lookup t1=some v1) (h2:σ.lookup t2=some v2) (h3:σ.lookup t3=some v3) (hR:R (.returned (.tuple #[v1,v2,v3])) w):bodyPost P fn R .ret a w:=bE hr Z (.tmp Z h1) (.tmp Z h2) (.tmp Z h3) hR
end
end
section
variable {α:Type}
inductive At:List α→α→Prop
 |z {a:α} {l:List α}:At (a::l) a
 |s {a b:α} {l:List α} (h:At l a):At (b::l) a
inductive lX (a b:α):List α→List α→Prop
 |z {l:List α}:lX a b (a::l) (b::l)
 |s {c:α} {l m:List α} (h:lX a b l m):lX a b (c::l) (c::m)
inductive pF:List α→List α→Prop
 |n {l:List α}:pF l l
 |t {a:α} {l m:List α} (h:pF l m):pF (a::l) (a::m)
 |f {a:α} {l m:List α} (h:pF l m):pF (a::l) m
theorem At.get {l:List α} {a:α} (h:At l a):∃i:Nat,l[i]?=some a:=by
 induction h with
 |z=>exact ⟨0,rfl⟩
 |s _ ih=>obtain ⟨i,hi⟩:=ih;exact ⟨i+1,by simpa using hi⟩
theorem lX.get {a b:α} {l m:List α} (h:lX a b l m):∃i:Nat,l[i]?=some a∧m=l.set i b:=by
 induction h with
 |z=>exact ⟨0,rfl,rfl⟩
 |s _ ih=>obtain ⟨i,hi,rfl⟩:=ih;exact ⟨i+1,by simpa using hi,rfl⟩
theorem pF.sub {l m:List α} (h:pF l m):m.Sublist l:=by
 induction h with
 |n=>exact List.Sublist.refl _
 |t _ ih=>exact ih.cons₂ _
 |f _ ih=>exact ih.cons _
variable {a b x1 x2 x3 x4 x5 x6 x7 x8 x9 y1 y2:α} {l m:List α}
theorem O0:At (a::l) a:= .z
theorem O1:At (x1::a::l) a:= .s .z
theorem O2:At (x1::x2::a::l) a:= .s O1
theorem O3:At (x1::x2::x3::a::l) a:= .s O2
theorem O4:At (x1::x2::x3::x4::a::l) a:= .s O3
theorem O5:At (x1::x2::x3::x4::x5::a::l) a:= .s O4
theorem O6:At (x1::x2::x3::x4::x5::x6::a::l) a:= .s O5
theorem O7:At (x1::x2::x3::x4::x5::x6::x7::a::l) a:= .s O6
theorem O8:At (x1::x2::x3::x4::x5::x6::x7::x8::a::l) a:= .s O7
theorem O9:At (x1::x2::x3::x4::x5::x6::x7::x8::x9::a::l) a:= .s O8
theorem O10:At (x1::x2::x3::x4::x5::x6::x7::x8::x9::y1::a::l) a:= .s O9
theorem aZ:lX a b (a::l) (b::l):= .z
theorem dO:lX a b (x1::a::l) (x1::b::l):= .s .z
theorem fF:lX a b (x1::x2::a::l) (x1::x2::b::l):= .s dO
theorem jm:lX a b (x1::x2::x3::a::l) (x1::x2::x3::b::l):= .s fF
theorem yL:lX a b (x1::x2::x3::x4::a::l) (x1::x2::x3::x4::b::l):= .s jm
theorem Cn:lX a b (x1::x2::x3::x4::x5::a::l) (x1::x2::x3::x4::x5::b::l):= .s yL
theorem yM:lX a b (x1::x2::x3::x4::x5::x6::a::l) (x1::x2::x3::x4::x5::x6::b::l):= .s Cn
theorem Iy:lX a b (x1::x2::x3::x4::x5::x6::x7::a::l) (x1::x2::x3::x4::x5::x6::x7::b::l):= .s yM
theorem SC:lX a b (x1::x2::x3::x4::x5::x6::x7::x8::a::l) (x1::x2::x3::x4::x5::x6::x7::x8::b::l):= .s Iy
end
def nth {α:Type}:List α→Nat→Option α
 |[],_=>none
 |x::_,0=>some x
 |_::r,n+1=>nth r n
theorem SE {α:Type}:∀(l:List α) (i:Nat),nth l i=l[i]?
 |[],_=>rfl
 |_::_,0=>rfl
 |_::r,n+1=>by rw [List.getElem?_cons_succ];exact SE r n
theorem Iz {α:Type} {l:Array α} {i:Nat} {x:α} (h:nth l.toList i=some x):l[i]?=some x:=by
 rw [SE] at h;simpa using h
def gY:Go.IntKind→Option Nat
 | .i8=>some 127| .i16=>some 32767| .i32=>some 2147483647| .i64=>some 9223372036854775807
 | .u8=>some 255| .u16=>some 65535| .u32=>some 4294967295| .u64=>some 18446744073709551615
theorem qc1 {k:Go.IntKind} {B m:Nat} (hB:gY k=some B) (h:m≤B):Go.IntKind.wrap k (m:Int)=(m:Int):=
 uE k (Nat.le_trans h (by cases k<;>(injection hB with hB;subst hB;exact Nat.le_refl _)))
section
variable {P:Program} {ops o2:Array Oper} {Q:Exit→Act→World→Prop} {a:Act} {W w:World} {n i j d d2:Nat} {D:List Deferred} {σ σ':List (Nat×Value)} {o o':Oper} {op:Op} {v v1 v2 v3:Value} {X:Act→World→Prop} {fs fs':List Fact} {p q:Nat×Value}
def JJ (W w:World) (n:Nat) (D:List Deferred) (σ:List (Nat×Value)) (fs:List Fact) (X:Act→World→Prop):Prop:=∀a,Fr a n D σ→Mem W w fs→X a w
theorem Jb (Z:Fr a n D σ) (HM:Mem W w fs) (h:JJ W w n D σ fs X):X a w:=h a Z HM
theorem Fr.kS {xs:List (Nat×Value)} (h:Fr a n D (q::(xs++σ))) (hn:(xs.all fun p=>p.1==q.1||(σ.lookup p.1).isNone)=true):Fr a n D (q::σ):=by
 refine ⟨h.size,h.defers,fun t v hv=>h.slot t v ?_⟩
 obtain ⟨q1,q2⟩:=q
 simp only [List.lookup_cons] at hv⊢
 split at hv
 ·exact hv
 ·rename_i e
  rw [DY]
  cases hl:xs.lookup t with
  |none=>exact hv
  |some u=>
   exfalso
   obtain ⟨r,hr,hrt⟩:=Ik (DZ hl)
   have:=List.all_eq_true.1 hn r hr
   rw [hrt,Bool.or_eq_true] at this
   rcases this with h1|h1
   ·simp only [e] at h1;cases h1
   ·rw [hv] at h1;cases h1
theorem Fr.kT {xs:List (Nat×Value)} (h:Fr a n D (xs++σ)) (hn:(xs.all fun p=>(σ.lookup p.1).isNone)=true):Fr a n D σ:=by
 refine ⟨h.size,h.defers,fun t v hv=>h.slot t v ?_⟩
 rw [DY]
 cases hl:xs.lookup t with
 |none=>exact hv
 |some u=>
  exfalso
  obtain ⟨r,hr,hrt⟩:=Ik (DZ hl)
  have:=List.all_eq_true.1 hn r hr
  rw [hrt,hv] at this
  cases this
section
variable {p1 p2 p3 p4 p5 p6 p7 p8:Nat×Value}
theorem aR (h:([p1].all fun p=>p.1==q.1||(σ.lookup p.1).isNone)=true:=by kernel_rfl) (k:JJ W w n D (q::σ) fs X):JJ W w n D (q::p1::σ) fs X:=fun a Z=>k a (Z.kS (xs:=[p1]) h)
theorem aY (h:([p1,p2].all fun p=>p.1==q.1||(σ.lookup p.1).isNone)=true:=by kernel_rfl) (k:JJ W w n D (q::σ) fs X):JJ W w n D (q::p1::p2::σ) fs X:=fun a Z=>k a (Z.kS (xs:=[p1,p2]) h)
theorem bT (h:([p1,p2,p3].all fun p=>p.1==q.1||(σ.lookup p.1).isNone)=true:=by kernel_rfl) (k:JJ W w n D (q::σ) fs X):JJ W w n D (q::p1::p2::p3::σ) fs X:=fun a Z=>k a (Z.kS (xs:=[p1,p2,p3]) h)
theorem dR (h:([p1,p2,p3,p4].all fun p=>p.1==q.1||(σ.lookup p.1).isNone)=true:=by kernel_rfl) (k:JJ W w n D (q::σ) fs X):JJ W w n D (q::p1::p2::p3::p4::σ) fs X:=fun a Z=>k a (Z.kS (xs:=[p1,p2,p3,p4]) h)
theorem fJ (h:([p1,p2,p3,p4,p5].all fun p=>p.1==q.1||(σ.lookup p.1).isNone)=true:=by kernel_rfl) (k:JJ W w n D (q::σ) fs X):JJ W w n D (q::p1::p2::p3::p4::p5::σ) fs X:=fun a Z=>k a (Z.kS (xs:=[p1,p2,p3,p4,p5]) h)
theorem aI (h:([p1,p2,p3,p4,p5,p6].all fun p=>p.1==q.1||(σ.lookup p.1).isNone)=true:=by kernel_rfl) (k:JJ W w n D (q::σ) fs X):JJ W w n D (q::p1::p2::p3::p4::p5::p6::σ) fs X:=fun a Z=>k a (Z.kS (xs:=[p1,p2,p3,p4,p5,p6]) h)
theorem kg (h:([p1].all fun p=>(σ.lookup p.1).isNone)=true:=by kernel_rfl) (k:JJ W w n D σ fs X):JJ W w n D (p1::σ) fs X:=fun a Z=>k a (Z.kT (xs:=[p1]) h)
theorem SF (h:([p1,p2].all fun p=>(σ.lookup p.1).isNone)=true:=by kernel_rfl) (k:JJ W w n D σ fs X):JJ W w n D (p1::p2::σ) fs X:=fun a Z=>k a (Z.kT (xs:=[p1,p2]) h)
theorem uV (h:([p1,p2,p3].all fun p=>(σ.lookup p.1).isNone)=true:=by kernel_rfl) (k:JJ W w n D σ fs X):JJ W w n D (p1::p2::p3::σ) fs X:=fun a Z=>k a (Z.kT (xs:=[p1,p2,p3]) h)
theorem yN (h:([p1,p2,p3,p4].all fun p=>(σ.lookup p.1).isNone)=true:=by kernel_rfl) (k:JJ W w n D σ fs X):JJ W w n D (p1::p2::p3::p4::σ) fs X:=fun a Z=>k a (Z.kT (xs:=[p1,p2,p3,p4]) h)
theorem Ee (h:([p1,p2,p3,p4,p5].all fun p=>(σ.lookup p.1).isNone)=true:=by kernel_rfl) (k:JJ W w n D σ fs X):JJ W w n D (p1::p2::p3::p4::p5::σ) fs X:=fun a Z=>k a (Z.kT (xs:=[p1,p2,p3,p4,p5]) h)
theorem qI (h:([p1,p2,p3,p4,p5,p6].all fun p=>(σ.lookup p.1).isNone)=true:=by kernel_rfl) (k:JJ W w n D σ fs X):JJ W w n D (p1::p2::p3::p4::p5::p6::σ) fs X:=fun a Z=>k a (Z.kT (xs:=[p1,p2,p3,p4,p5,p6]) h)
end
theorem Mem.sel (h:Mem W w fs) (m:pF fs fs'):Mem W w fs':=⟨h.below,fun f hf=>h.holds f (m.sub.subset hf),h.apart.sublist m.sub⟩
theorem JM (m:pF fs fs') (k:JJ W w n D σ fs' X):JJ W w n D σ fs X:=fun a Z HM=>k a Z (HM.sel m)
def fE (ops:Array Oper) (σ:List (Nat×Value)) (n i:Nat):Option (Nat×Op):=match ops[i]? with
 |some o=>match bX ops σ o,o.dst with
  |some true,some d=>if d<n then some (d,o.op) else none
  |_,_=>none
 |none=>none
theorem Ef (h:fE ops σ n i=some (d,op)):∃o,ops[i]?=some o∧bX ops σ o=some true∧o.dst=some d∧d<n∧o.op=op:=by
 unfold fE at h
 split at h
 ·rename_i o ho
  split at h
  ·rename_i d' hw hd
   split at h
   ·rename_i hdn
    injection h with h
    injection h with h1 h2
    subst h1;subst h2
    exact ⟨o,ho,hw,hd,hdn,rfl⟩
   ·cases h
  ·cases h
 ·cases h
theorem JJ.yl (h:fE ops σ n i=some (d,op)) (hy:∀o:Oper,o.op=op→Yl P (fun wS=>Mem W wS fs) σ o v) (k:JJ W w n D ((d,v)::σ) fs (qh P ops Q (i+1))):JJ W w n D σ fs (qh P ops Q i):=by
 obtain ⟨o,ho,hw,hd,hdn,he⟩:=Ef h
 exact fun _ Z HM=>LB (S:=fun wS=>Mem W wS fs) Z HM ho hw hd hdn (hy o he) fun a Z=>k a Z HM
theorem JJ.pG (h:fE ops σ n i=some (d,op)) (k:∀(o:Oper) a,o.op=op→o.dst=some d→d<n→Fr a n D σ→Mem W w fs→o.wp P a w (qh P ops Q (i+1)) Q):JJ W w n D σ fs (qh P ops Q i):=by
 obtain ⟨o,ho,hw,hd,hdn,he⟩:=Ef h
 exact fun a Z HM=>DX Z ho hw (k o a he hd hdn Z HM)
theorem Jp (m:Nat) (h:uy P ops n m i σ=some σ':=by exact rfl) (k:JJ W w n D σ' fs (qh P ops Q (i+m))):JJ W w n D σ fs (qh P ops Q i):=
 fun _ Z HM=>LC m i Z h rfl fun a' qU=>k a' qU HM
theorem Jv (m:Nat) (new:List (Nat×Value)) (h:(uy P ops n m i σ).map (fun s=>(thin s σ new,new.map fun p=>s.lookup p.1))=some (true,new.map fun p=>some p.2):=by kernel_rfl) (k:JJ W w n D (new++σ) fs (qh P ops Q (i+m))):JJ W w n D σ fs (qh P ops Q i):=
 fun _ Z HM=>fp Z m i new (fun a' qU=>k a' qU HM) h
theorem Jf (off:Nat) {s f g b:Nat} {x:Operand} (h:fE ops σ n i=some (d,.fieldAddr s x f):=by exact rfl) (hx:look σ x=some (.pointer (some ⟨g,b,none⟩)):=by exact rfl) (hf:Ca P s f=some off:=by kernel_rfl) (k:JJ W w n D ((d,.pointer (some ⟨g,b+off,none⟩))::σ) fs (qh P ops Q (i+1))):JJ W w n D σ fs (qh P ops Q i):=
 JJ.yl h (fun o ho=>Yl.pure (by rw [ho];simp only [qG,hx,hf];rw [Addr.add_mid])) k
theorem Jc {g off:Nat} {x:Operand} {t tb:TypeId} {cs:Array Value} (O:At fs (.blk g cs tb)) (h:fE ops σ n i=some (d,.load t x):=by exact rfl) (hx:look σ x=some (.pointer (some ⟨g,off,none⟩)):=by exact rfl) (hv:nth cs.toList off=some v:=by exact rfl) (ht:fT P t=true:=by kernel_rfl) (k:JJ W w n D ((d,v)::σ) fs (qh P ops Q (i+1))):JJ W w n D σ fs (qh P ops Q i):=
 JJ.yl h (fun o ho=>Yl.qn ho hx ht fun _ h=>let ⟨_,hi⟩:=O.get;h.cell hi (Iz hv)) k
theorem Jg (off:Nat) {s f g b:Nat} {x:Operand} {t tb:TypeId} {cs:Array Value} (O:At fs (.blk g cs tb)) (h:fE ops σ n i=some (d,.fieldAddr s x f):=by exact rfl) (hx:look σ x=some (.pointer (some ⟨g,b,none⟩)):=by exact rfl) (h2:fE ops ((d,.pointer (some ⟨g,b+off,none⟩))::σ) n (i+1)=some (d2,.load t (.tmp d)):=by exact rfl) (hv:nth cs.toList (b+off)=some v:=by exact rfl)
 (hk:(fT P t&& (Ca P s f==some off&& (d2==d||(σ.lookup d).isNone)))=true:=by kernel_rfl) (k:JJ W w n D ((d2,v)::σ) fs (qh P ops Q (i+2))):JJ W w n D σ fs (qh P ops Q i):=by
 simp only [Bool.and_eq_true,beq_iff_eq] at hk
 refine Jf off h hx hk.2.1 (Jc O h2 ?_ hv hk.1 (aR (by simpa [Bool.beq_comm] using hk.2.2) k))
 simp [look]
theorem Jl {x:Operand} {t:TypeId} {A:Option Addr} {m c:Nat} (h:fE ops σ n i=some (d,.call {callee:= .builtin .len,args:= #[x],argTypes:= #[t]}):=by exact rfl) (hx:look σ x=some (.slice A m c):=by exact rfl) (ht:kE P t=true:=by kernel_rfl) (k:JJ W w n D ((d,.int .i64 (m:Int))::σ) fs (qh P ops Q (i+1))):JJ W w n D σ fs (qh P ops Q i):=
 JJ.yl h (fun o ho=>Yl.len ho hx ht) k
theorem Jn {x:Operand} {p:Addr} (h:fE ops σ n i=some (d,.nilCheck x):=by exact rfl) (hx:look σ x=some (.pointer (some p)):=by exact rfl) (k:JJ W w n D ((d,.pointer (some p))::σ) fs (qh P ops Q (i+1))):JJ W w n D σ fs (qh P ops Q i):=
 JJ.yl h (fun o ho=>Yl.nilCheck ho hx) k
theorem Jx {x:Operand} {e:Nat} {vs:Array Value} (h:fE ops σ n i=some (d,.extract x e):=by exact rfl) (hx:look σ x=some (.tuple vs):=by exact rfl) (hv:nth vs.toList e=some v:=by exact rfl) (k:JJ W w n D ((d,v)::σ) fs (qh P ops Q (i+1))):JJ W w n D σ fs (qh P ops Q i):=
 JJ.yl h (fun o ho=>Yl.pure (by rw [ho];simp only [qG,hx];exact Iz hv)) k
theorem Jy (ho:ops[i]?=some o:=by exact rfl) (hw:bX ops σ o=some true:=by exact rfl) (hd:o.dst=some d:=by exact rfl) (hdn:d<n:=by decide) (h:Yl P (fun wS=>Mem W wS fs) σ o v) (k:JJ W w n D ((d,v)::σ) fs (qh P ops Q (i+1))):JJ W w n D σ fs (qh P ops Q i):=
 fun _ Z HM=>LB (S:=fun wS=>Mem W wS fs) Z HM ho hw hd hdn h fun a Z=>k a Z HM
theorem Jo (u:Value) (h:v=u) (k:JJ W w n D ((d,u)::σ) fs X):JJ W w n D ((d,v)::σ) fs X:=by subst h;exact k
section
variable {x y:Operand} {t t2:TypeId} {k:Go.IntKind} {m p B:Nat}
theorem JJ.bin {bo:BinOp} {u:Value} {a1 a2:Value} (h:fE ops σ n i=some (d,.binOp bo t x y t2)) (hx:look σ x=some a1) (hy:look σ y=some a2) (hn:DW a1=true) (hb:qR bo a1 a2=some v) (e:v=u) (K:JJ W w n D ((d,u)::σ) fs (qh P ops Q (i+1))):JJ W w n D σ fs (qh P ops Q i):=by
 subst e
 exact JJ.yl h (fun o ho=>Yl.pure (by rw [ho];simp only [qG,hx,hy,hn,if_true];exact hb)) K
theorem SG (k:Go.IntKind) (a b:Int):qR .add (.int k a) (.int k b)=some (.int k (k.wrap (a+b))):=by simp [qR,Ig]
theorem SH (k:Go.IntKind) (a b:Int):qR .sub (.int k a) (.int k b)=some (.int k (k.wrap (a-b))):=by simp [qR,Ig]
theorem Ja (h:fE ops σ n i=some (d,.binOp .add t x y t2):=by exact rfl) (hx:look σ x=some (.int k (m:Int)):=by exact rfl) (hy:look σ y=some (.int k (p:Int)):=by exact rfl) (hB:gY k=some B:=by exact rfl) (hb:m+p≤B:=by omega) (K:JJ W w n D ((d,.int k ((m+p:Nat):Int))::σ) fs (qh P ops Q (i+1))):JJ W w n D σ fs (qh P ops Q i):=
 JJ.bin h hx hy rfl (SG _ _ _) (by rw [show ((m:Int)+(p:Int))=((m+p:Nat):Int) from rfl,qc1 hB hb]) K
theorem cK (p:Nat) {z:Int} (h:fE ops σ n i=some (d,.binOp .add t x y t2):=by exact rfl) (hx:look σ x=some (.int k (m:Int)):=by exact rfl) (hy:look σ y=some (.int k z):=by exact rfl) (hz:z=(p:Int):=by exact rfl) (hB:gY k=some B:=by exact rfl) (hb:m+p≤B:=by omega) (K:JJ W w n D ((d,.int k ((m+p:Nat):Int))::σ) fs (qh P ops Q (i+1))):JJ W w n D σ fs (qh P ops Q i):=by
 subst hz;exact Ja h hx hy hB hb K
theorem Js (h:fE ops σ n i=some (d,.binOp .sub t x y t2):=by exact rfl) (hx:look σ x=some (.int k (m:Int)):=by exact rfl) (hy:look σ y=some (.int k (p:Int)):=by exact rfl) (hB:gY k=some B:=by exact rfl) (hb:p≤m∧m-p≤B:=by omega) (K:JJ W w n D ((d,.int k ((m-p:Nat):Int))::σ) fs (qh P ops Q (i+1))):JJ W w n D σ fs (qh P ops Q i):=
 JJ.bin h hx hy rfl (SH _ _ _) (by rw [show ((m:Int)- (p:Int))=((m-p:Nat):Int) by omega,qc1 hB hb.2]) K
theorem yO (p:Nat) {z:Int} (h:fE ops σ n i=some (d,.binOp .sub t x y t2):=by exact rfl) (hx:look σ x=some (.int k (m:Int)):=by exact rfl) (hy:look σ y=some (.int k z):=by exact rfl) (hz:z=(p:Int):=by exact rfl) (hB:gY k=some B:=by exact rfl) (hb:p≤m∧m-p≤B:=by omega) (K:JJ W w n D ((d,.int k ((m-p:Nat):Int))::σ) fs (qh P ops Q (i+1))):JJ W w n D σ fs (qh P ops Q i):=by
 subst hz;exact Js h hx hy hB hb K
def uW (P:Program) (s t:TypeId):Option Go.IntKind:=match P.underlying s,P.underlying t with
 |some _,some (.int k)=>some k
 |_,_=>none
theorem Jw (k:Go.IntKind) {k0:Go.IntKind} (h:fE ops σ n i=some (d,.convert t t2 x):=by exact rfl) (hx:look σ x=some (.int k0 (m:Int)):=by exact rfl) (hk:uW P t t2=some k:=by kernel_rfl) (hB:gY k=some B:=by exact rfl) (hb:m≤B:=by omega) (K:JJ W w n D ((d,.int k (m:Int))::σ) fs (qh P ops Q (i+1))):JJ W w n D σ fs (qh P ops Q i):=by
 refine JJ.yl h (fun o ho=>Yl.pure (by
  rw [ho]
  unfold uW at hk
  split at hk
  ·rename_i q1 q2 h1 h2
   injection hk with hk
   subst hk
   simp only [qG,h1,h2,hx,qc1 hB hb]
  ·cases hk)) K
end
theorem Ji {p:Prop} {inst:Decidable p} (h1:p→JJ W w n D ((d,.bool true)::σ) fs X) (h2:¬p→JJ W w n D ((d,.bool false)::σ) fs X):JJ W w n D ((d,.bool (@decide p inst))::σ) fs X:=by
 by_cases h:p
 ·rw [decide_eq_true h];exact h1 h
 ·rw [decide_eq_false h];exact h2 h
theorem Je {α:Type} {ib:BEq α} [LawfulBEq α] {x y:α} (h1:x=y→JJ W w n D ((d,.bool true)::σ) fs X) (h2:x≠y→JJ W w n D ((d,.bool false)::σ) fs X):JJ W w n D ((d,.bool (x==y))::σ) fs X:=by
 cases h:x==y
 ·exact h2 (ne_of_beq_false h)
 ·exact h1 (eq_of_beq h)
theorem Jh {α:Type} {ib:BEq α} [LawfulBEq α] {x y:α} (h1:x≠y→JJ W w n D ((d,.bool true)::σ) fs X) (h2:x=y→JJ W w n D ((d,.bool false)::σ) fs X):JJ W w n D ((d,.bool (x !=y))::σ) fs X:=by
 cases h:x !=y
 ·exact h2 (bne_eq_false_iff_eq.1 h)
 ·exact h1 (bne_iff_ne.1 h)
theorem Ju {b:Bool} (h1:b=true→JJ W w n D ((d,.bool true)::σ) fs X) (h2:b=false→JJ W w n D ((d,.bool false)::σ) fs X):JJ W w n D ((d,.bool b)::σ) fs X:=by
 cases b
 ·exact h2 rfl
 ·exact h1 rfl
theorem Jr {id:Nat} {c:Code} {Q':Exit→Act→World→Prop} (hi:ops.size=i:=by exact rfl) (h:∀a w,Q' .normal a w=Code.wp P (.seq (.region id o2 false) c) Q a w:=by exact fun _ _=>rfl) (k:JJ W w n D σ fs (qh P o2 (Exit.then (Code.wp P c Q) Q) 0)):JJ W w n D σ fs (qh P ops Q' i):=
 fun a Z HM=>LA hi (by rw [h];exact wp_seq (wN (k a Z HM)))
theorem Jq (hi:ops.size=i:=by exact rfl) (k:JJ W w n D σ fs (Q .normal)):JJ W w n D σ fs (qh P ops Q i):=fun a Z HM=>LA hi (k a Z HM)
theorem Jj {c:Code} {Q':Exit→Act→World→Prop} (hi:ops.size=i:=by exact rfl) (h:∀a w,Q' .normal a w=Code.wp P c Q a w:=by exact fun _ _=>rfl) (k:JJ W w n D σ fs (Code.wp P c Q)):JJ W w n D σ fs (qh P ops Q' i):=fun a Z HM=>LA hi (by rw [h];exact k a Z HM)
theorem JR {id:Nat} (k:JJ W w n D σ fs (qh P ops Q 0)):JJ W w n D σ fs (Code.wp P (.region id ops false) Q):=fun a Z HM=>wN (k a Z HM)
theorem JQ {c c2:Code} (k:JJ W w n D σ fs (Code.wp P c (Exit.then (Code.wp P c2 Q) Q))):JJ W w n D σ fs (Code.wp P (.seq c c2) Q):=fun a Z HM=>wp_seq (k a Z HM)
theorem JP {id:Nat} {c:Code} (k:JJ W w n D σ fs (qh P ops (Exit.then (Code.wp P c Q) Q) 0)):JJ W w n D σ fs (Code.wp P (.seq (.region id ops false) c) Q):=fun a Z HM=>wp_seq (wN (k a Z HM))
theorem JG {Y:Act→World→Prop} {c:Code} (h:∀a w,Y a w=Code.wp P c Q a w:=by exact fun _ _=>rfl) (k:JJ W w n D σ fs (Code.wp P c Q)):JJ W w n D σ fs Y:=fun a Z HM=>by rw [h];exact k a Z HM
theorem aF {c:Code} {Q':Exit→Act→World→Prop} (h:∀a w,Q' .normal a w=Code.wp P c Q a w:=by exact fun _ _=>rfl) (k:JJ W w n D σ fs (Code.wp P c Q)):JJ W w n D σ fs (Code.wp P .skip Q'):=fun a Z HM=>wp_skip (by rw [h];exact k a Z HM)
theorem JT {c:Operand} {x y:Code} (hc:look σ c=some (.bool true):=by exact rfl) (k:JJ W w n D σ fs (Code.wp P x Q)):JJ W w n D σ fs (Code.wp P (.cond c x y) Q):=fun a Z HM=>qv6 Z hc (k a Z HM)
theorem JF {c:Operand} {x y:Code} (hc:look σ c=some (.bool false):=by exact rfl) (k:JJ W w n D σ fs (Code.wp P y Q)):JJ W w n D σ fs (Code.wp P (.cond c x y) Q):=fun a Z HM=>qtn Z hc (k a Z HM)
theorem JB {id:Nat} {c:Code} (k:JJ W w n D σ fs (Code.wp P c (Exit.inBlock id Q))):JJ W w n D σ fs (Code.wp P (.block id c) Q):=fun a Z HM=>wp_block (k a Z HM)
theorem JS (k:JJ W w n D σ fs (Q .normal)):JJ W w n D σ fs (Code.wp P .skip Q):=fun a Z HM=>wp_skip (k a Z HM)
theorem JX {id:Nat} (k:JJ W w n D σ fs (Q (.exit id))):JJ W w n D σ fs (Code.wp P (.exit id) Q):=fun a Z HM=>wp_exit (k a Z HM)
theorem JZ (k:JJ W w n D σ fs (Q .ret)):JJ W w n D σ fs (Code.wp P .ret Q):=fun a Z HM=>wp_ret (k a Z HM)
section
variable {fn:Func} {R:Ending→World→Prop} {t1 t2 t3:Nat}
theorem bB (hX:∀a w,bodyPost P fn R .ret a w→X a w:=by exact fun _ _ h=>h) (hr:fn.results= #[.tmp t1]:=by exact rfl) (h1:σ.lookup t1=some v1:=by exact rfl) (hR:Mem W w fs→R (.returned v1) w):JJ W w n [] σ fs X:=fun _ Z HM=>hX _ _ (jB hr Z h1 (hR HM))
theorem iX (hX:∀a w,bodyPost P fn R .ret a w→X a w:=by exact fun _ _ h=>h) (hr:fn.results= #[.tmp t1]:=by exact rfl) (h1:σ.lookup t1=some v1:=by exact rfl) (hR:Mem W w fs→R (.returned v1) w:=by exact fun M=>⟨rfl,M.below⟩):JJ W w n [] σ fs X:=fun _ Z HM=>hX _ _ (jB hr Z h1 (hR HM))
theorem bY (hX:∀a w,bodyPost P fn R .ret a w→X a w:=by exact fun _ _ h=>h) (hr:fn.results= #[.tmp t1,.tmp t2]:=by exact rfl) (h1:σ.lookup t1=some v1:=by exact rfl) (h2:σ.lookup t2=some v2:=by exact rfl) (hR:Mem W w fs→R (.returned (.tuple #[v1,v2])) w):JJ W w n [] σ fs X:=fun _ Z HM=>hX _ _ (jC hr Z h1 h2 (hR HM))
theorem SK (hX:∀a w,bodyPost P fn R .ret a w→X a w:=by exact fun _ _ h=>h) (hr:fn.results= #[.tmp t1,.tmp t2]:=by exact rfl) (h1:σ.lookup t1=some v1:=by exact rfl) (h2:σ.lookup t2=some v2:=by exact rfl) (hR:Mem W w fs→R (.returned (.tuple #[v1,v2])) w:=by exact fun M=>⟨rfl,M.below⟩):JJ W w n [] σ fs X:=fun _ Z HM=>hX _ _ (jC hr Z h1 h2 (hR HM))
theorem wU (hX:∀a w,bodyPost P fn R .ret a w→X a w:=by exact fun _ _ h=>h) (hr:fn.results= #[.tmp t1,.tmp t2,.tmp t3]:=by exact rfl) (h1:σ.lookup t1=some v1:=by exact rfl) (h2:σ.lookup t2=some v2:=by exact rfl) (h3:σ.lookup t3=some v3:=by exact rfl) (hR:Mem W w fs→R (.returned (.tuple #[v1,v2,v3])) w):JJ W w n [] σ fs X:=fun _ Z HM=>hX _ _ (Ed hr Z h1 h2 h3 (hR HM))
end
theorem JA (cs:Array Value) {e:TypeId} (h:fE ops σ n i=some (d,.alloc e):=by exact rfl) (hz:yG P e=some cs:=by kernel_rfl) (k:∀w' g,JJ W w' n D ((d,.pointer (some ⟨g,0,none⟩))::σ) (.blk g cs e::fs) (qh P ops Q (i+1))):JJ W w n D σ fs (qh P ops Q i):=
 JJ.pG h fun _ _ he hd hdn Z HM=>LM Z HM he hz hd hdn fun a w' g Z HM=>k w' g a Z HM
theorem JE {cs:Array Value} {e:TypeId} {x:Operand} (h:fE ops σ n i=some (d,.box e x):=by exact rfl) (hx:look σ x=some (.agg cs):=by exact rfl) (k:∀w' g,JJ W w' n D ((d,.pointer (some ⟨g,0,none⟩))::σ) (.blk g cs e::fs) (qh P ops Q (i+1))):JJ W w n D σ fs (qh P ops Q i):=
 JJ.pG h fun _ _ he hd hdn Z HM=>wQ Z HM he hx rfl hd hdn fun a w' g Z HM=>k w' g a Z HM
theorem uX {e:TypeId} {x:Operand} (h:fE ops σ n i=some (d,.box e x):=by exact rfl) (hx:look σ x=some v:=by exact rfl) (hc:v.cells= #[v]:=by exact rfl) (k:∀w' g,JJ W w' n D ((d,.pointer (some ⟨g,0,none⟩))::σ) (.blk g #[v] e::fs) (qh P ops Q (i+1))):JJ W w n D σ fs (qh P ops Q i):=
 JJ.pG h fun _ _ he hd hdn Z HM=>wQ Z HM he hx hc hd hdn fun a w' g Z HM=>k w' g a Z HM
theorem JW {t:TypeId} {x y:Operand} {g off:Nat} {l m:List Value} {v0:Value} {tb:TypeId} (O:lX (.blk g l.toArray tb) (.blk g m.toArray tb) fs fs') (U:lX v0 v l m) (ho:ops[i]?=some o:=by exact rfl) (hop:o.op= .store t x y:=by exact rfl) (hw:bX ops σ o=some true:=by exact rfl) (hd:o.dst=none:=by exact rfl) (hx:look σ x=some (.pointer (some ⟨g,off,none⟩)):=by exact rfl) (hy:look σ y=some v:=by exact rfl) (hs:(P.info? t).map (·.size)=some 1:=by kernel_rfl) (hv:v.oneCell'=true:=by exact rfl)
 (hu:m=l.set off v:=by exact rfl) (hl:Nat.blt off l.length=true:=by exact rfl) (k:∀w',JJ W w' n D σ fs' (qh P ops Q (i+1))):JJ W w n D σ fs (qh P ops Q i):=by
 obtain ⟨j,hj,rfl⟩:=O.get
 refine fun a Z HM=>DX Z ho hw (RV Z HM hop hd hx hy hs hv hj (by simpa using hl) fun w' HM=>k w' a Z ?_)
 subst hu
 simpa using HM
theorem JV {t:TypeId} {x y:Operand} {g m:Nat} {cs ds:Array Value} {tb:TypeId} (si:SI P t m) (O:lX (.blk g cs tb) (.blk g ds tb) fs fs') (ho:ops[i]?=some o:=by exact rfl) (hop:o.op= .store t x y:=by exact rfl) (hw:bX ops σ o=some true:=by exact rfl) (hd:o.dst=none:=by exact rfl) (hx:look σ x=some (.pointer (some ⟨g,0,none⟩)):=by exact rfl) (hy:look σ y=some (.agg ds):=by exact rfl)
 (hc:cs.size=m:=by exact rfl) (hm:ds.size=m:=by exact rfl) (h1:∀u∈ds.toList,u.oneCell'=true:=by simp [Value.oneCell']) (k:∀w',JJ W w' n D σ fs' (qh P ops Q (i+1))):JJ W w n D σ fs (qh P ops Q i):=by
 obtain ⟨j,hj,rfl⟩:=O.get
 exact fun a Z HM=>DX Z ho hw (RX Z HM hop hd hx hy si hc hm h1 hj fun w' HM=>k w' a Z HM)
theorem JI {f:FuncId} {xs:Array Operand} {ts:Array TypeId} {vs:List Value} (h0:fE ops σ n i=some (d,.call {callee:= .value (.func f),args:=xs,argTypes:=ts}):=by exact rfl) (hv:looks σ xs.toList=some vs:=by exact rfl) (h:Mem W w fs→Calls P f vs.toArray w (fun r w'=>r= .returned v∧Below w.heap.size w w')) (hf:callable P f=true:=by kernel_rfl)
 (k:∀w',Below w.heap.size w w'→JJ W w' n D ((d,v)::σ) fs (qh P ops Q (i+1))):JJ W w n D σ fs (qh P ops Q i):=
 JJ.pG h0 fun _ _ he hd hdn Z HM=>wR Z he hv hf hd hdn (h HM) fun _ w' ⟨h1,h2⟩=>⟨v,h1,fun a Z=>k w' h2 a Z (HM.call h2)⟩
theorem JL {f:FuncId} {xs:Array Operand} {ts:Array TypeId} {vs:List Value} {R:Ending→World→Prop} (h0:fE ops σ n i=some (d,.call {callee:= .value (.func f),args:=xs,argTypes:=ts}):=by exact rfl) (hv:looks σ xs.toList=some vs:=by exact rfl) (h:Mem W w fs→Calls P f vs.toArray w R) (hf:callable P f=true:=by kernel_rfl)
 (k:Mem W w fs→∀r w',R r w'→∃v,r= .returned v∧∃fs',Mem W w' fs'∧JJ W w' n D ((d,v)::σ) fs' (qh P ops Q (i+1))):JJ W w n D σ fs (qh P ops Q i):=
 JJ.pG h0 fun _ _ he hd hdn Z HM=>wR Z he hv hf hd hdn (h HM) fun r w' hr=>let ⟨v,h1,_,h3,h4⟩:=k HM r w' hr;⟨v,h1,fun a Z=>h4 a Z h3⟩
theorem JK {f:FuncId} {xs:Array Operand} {ts:Array TypeId} {vs:List Value} {V:Option Addr→Nat→Value} {m sz:Nat} {e:TypeId} {ys:List Value} (h0:fE ops σ n i=some (d,.call {callee:= .value (.func f),args:=xs,argTypes:=ts}):=by exact rfl) (hv:looks σ xs.toList=some vs:=by exact rfl) (h:Mem W w fs→Calls P f vs.toArray w (fun r w'=>(∃A c,r= .returned (V A c)∧w'.ownsRow w.heap.size e sz (.slice A m c) m ys∧m≤c)∧Below w.heap.size w w')) (hf:callable P f=true:=by kernel_rfl)
 (k:∀A c w',m≤c→JJ W w' n D ((d,V A c)::σ) (.row (.slice A m c) m ys e sz::fs) (qh P ops Q (i+1))):JJ W w n D σ fs (qh P ops Q i):=
 JJ.pG h0 fun _ _ he hd hdn Z HM=>wR Z he hv hf hd hdn (h HM) fun r w' ⟨⟨A,c,h1,h2,h3⟩,h4⟩=>⟨_,h1,fun a Z=>k A c w' h3 a Z (HM.aQ h4 h2)⟩
theorem JO {f:FuncId} {xs:Array Operand} {ts:Array TypeId} {vs:List Value} (h0:fE ops σ n i=some (d,.call {callee:= .value (.func f),args:=xs,argTypes:=ts}):=by exact rfl) (hv:looks σ xs.toList=some vs:=by exact rfl) (h:Mem W w fs→Calls P f vs.toArray w (fun r w'=>r= .returned v∧Mem W w' fs')) (hf:callable P f=true:=by kernel_rfl)
 (k:∀w',JJ W w' n D ((d,v)::σ) fs' (qh P ops Q (i+1))):JJ W w n D σ fs (qh P ops Q i):=
 JJ.pG h0 fun _ _ he hd hdn Z HM=>wR Z he hv hf hd hdn (h HM) fun r w' ⟨h1,h2⟩=>⟨v,h1,fun a Z=>k w' a Z h2⟩
theorem JU {t len e:Nat} {ps:Array (Nat×Operand)} {vs:List (Nat×Value)} {z:Value} {size bytes:Nat} (ei:EI P t e z size bytes) (cs:Array Value) (h:fE ops σ n i=some (d,.buildSlice t len ps):=by exact rfl) (hl:decide (0<len∧len*size≤16777216)=true:=by decide) (hv:wT σ ps.toList=some vs:=by exact rfl)
 (hf:Instr.fill (fun i=>some (i*size,size)) (Ip z.cells (len*size)) vs=some cs:=by kernel_rfl) (k:∀w' g,JJ W w' n D ((d,.slice (some ⟨g,0,none⟩) len len)::σ) (.blk g cs e::fs) (qh P ops Q (i+1))):JJ W w n D σ fs (qh P ops Q i):=
 JJ.pG h fun _ _ he hd hdn Z HM=>R3 Z HM he ei hl hv hf hd hdn fun a w' g Z HM=>k w' g a Z HM
theorem JD {s x:Operand} {t e:TypeId} {z:Value} {size bytes m0 m c B:Nat} {A:Option Addr} {xs:List Value} {fa:Option Addr→Nat→List Fact} (news:List Value) (j:Nat) (O:∀A' c',lX (.row v m0 xs e size) (.row (.slice A' (m0+m) c') (m0+m) (xs++news) e size) fs (fa A' c')) (ei:EI P t e z size bytes)
 (h0:fE ops σ n i=some (d,.call {callee:= .builtin .append,args:= #[s,x],argTypes:= #[t,t]}):=by exact rfl) (hs:look σ s=some v:=by exact rfl) (hx:look σ x=some (.slice A m c):=by exact rfl) (hj:fs[j]?=some (.row v m0 xs e size):=by exact rfl) (hu:(fun A' c'=>fs.set j (.row (.slice A' (m0+m) c') (m0+m) (xs++news) e size))=fa:=by kernel_rfl)
 (hr:Mem W w fs→Rd w B size A m news) (h1:∀u∈news,u.oneCell'=true) (hb:(m0+m)*bytes≤140737488355328:=by omega) (h63:m0+m≤9223372036854775807:=by omega)
 (k:∀w' A' c',m0+m≤c'→JJ W w' n D ((d,.slice A' (m0+m) c')::σ) (fa A' c') (qh P ops Q (i+1))):JJ W w n D σ fs (qh P ops Q i):=
 JJ.pG h0 fun _ _ he hd hdn Z HM=>qV Z HM he ei hs hx hj (hr HM) h1 hb h63 hd hdn fun a w' A' c' Z HM' hc=>k w' A' c' hc a Z (by have h:=congrFun (congrFun hu A') c';rw [←h];exact HM')
theorem JH {p:Prop} (h:p) (k:p→JJ W w n D σ fs X):JJ W w n D σ fs X:=k h
section
variable {f N:Nat} {fn:Func} {c:Code} {R:Ending→World→Prop} {u1 u2 u3 u4 u5 u6 u7 u8:Value}
theorem Eh (hf:P.funcs[f]?=some fn) (N:Nat) (hn:fn.ntmps=N:=by exact rfl) (hb:fn.body=some c:=by exact rfl) (hl:decide (0≤N)=true:=by kernel_rfl) (k:JJ w w N [] [] [] (Code.wp P c (bodyPost P fn R))):Calls P f #[] w R:=
 Cg (vs:=[]) hf hb hn hl rfl fun a Z=>k a Z (Mem.start w)
theorem dh (hf:P.funcs[f]?=some fn) (N:Nat) (hn:fn.ntmps=N:=by exact rfl) (hb:fn.body=some c:=by exact rfl) (hl:decide (1≤N)=true:=by kernel_rfl) (k:JJ w w N [] [(0,u1)] [] (Code.wp P c (bodyPost P fn R))):Calls P f #[u1] w R:=
 Cg (vs:=[u1]) hf hb hn hl rfl fun a Z=>k a Z (Mem.start w)
theorem iG (hf:P.funcs[f]?=some fn) (N:Nat) (hn:fn.ntmps=N:=by exact rfl) (hb:fn.body=some c:=by exact rfl) (hl:decide (2≤N)=true:=by kernel_rfl) (k:JJ w w N [] [(0,u1),(1,u2)] [] (Code.wp P c (bodyPost P fn R))):Calls P f #[u1,u2] w R:=
 Cg (vs:=[u1,u2]) hf hb hn hl rfl fun a Z=>k a Z (Mem.start w)
theorem Co (hf:P.funcs[f]?=some fn) (N:Nat) (hn:fn.ntmps=N:=by exact rfl) (hb:fn.body=some c:=by exact rfl) (hl:decide (3≤N)=true:=by kernel_rfl) (k:JJ w w N [] [(0,u1),(1,u2),(2,u3)] [] (Code.wp P c (bodyPost P fn R))):Calls P f #[u1,u2,u3] w R:=
 Cg (vs:=[u1,u2,u3]) hf hb hn hl rfl fun a Z=>k a Z (Mem.start w)
theorem uY (hf:P.funcs[f]?=some fn) (N:Nat) (hn:fn.ntmps=N:=by exact rfl) (hb:fn.body=some c:=by exact rfl) (hl:decide (4≤N)=true:=by kernel_rfl) (k:JJ w w N [] [(0,u1),(1,u2),(2,u3),(3,u4)] [] (Code.wp P c (bodyPost P fn R))):Calls P f #[u1,u2,u3,u4] w R:=
 Cg (vs:=[u1,u2,u3,u4]) hf hb hn hl rfl fun a Z=>k a Z (Mem.start w)
end
end
section
variable {P:Program} {ops o2:Array Oper} {Q:Exit→Act→World→Prop} {a:Act} {W w:World} {n d d2 fuel:Nat} {D:List Deferred} {σ σ':List (Nat×Value)} {o o':Oper} {op:Op} {v v1 v2 v3:Value} {X:Act→World→Prop} {fs gs fs':List Fact} {md:Region.Mode} {listed:Array Bool} {ex:List Nat} {S:World→Prop}
def VV (W w:World) (n:Nat) (D:List Deferred) (σ:List (Nat×Value)) (fs gs:List Fact) (X:Act→World→Prop):Prop:=∀a,Fr a n D σ→Mem W w fs→Mem W w gs→X a w
theorem Vb (Z:Fr a n D σ) (HM:Mem W w fs) (HS:Mem W w gs) (h:VV W w n D σ fs gs X):X a w:=h a Z HM HS
def yP (l:Array Bool) (is:List Nat):Array Bool:=is.foldl (fun l i=>l.setIfInBounds i true) l
theorem Vs (m:pF fs gs) (ex:List Nat) {id f0:Nat} (hf:ops.size=f0:=by exact rfl) (hm:P.follows .mixedOrders=true:=by kernel_rfl) (k:∀w',VV W w' n D σ fs gs (qk P .any ops Q (fun wS=>Mem W wS gs) ex f0 (Array.replicate ops.size false))):JJ W w n D σ fs (Code.wp P (.region id ops true) Q):=
 fun a Z HM=>qv3 hm (fun wS=>Mem W wS gs) ex (by have h:=k w.drew a Z HM.drew (HM.drew.sel m);subst hf;exact h)
theorem Vd (hr:Region.ready md ops listed=[]:=by kernel_rfl) (k:JJ W w n D σ fs (Q .normal)):VV W w n D σ fs gs (qk P md ops Q S ex fuel listed):=fun a Z HM _=>qd hr (k a Z HM)
def Cq (P:Program) (ops:Array Oper) (n:Nat):List Nat→List (Nat×Value)→Option (List (Nat×Value))
 |[],σ=>some σ
 |i::is,σ=>match wO P ops n i σ with
  |some σ'=>Cq P ops n is σ'
  |none=>none
def mq (md:Region.Mode) (ops:Array Oper) (ex:List Nat):List Nat→Array Bool→Bool
 |[],_=>true
 |i::is,l=>nA md ops ex l i&&mq md ops ex is (l.setIfInBounds i true)
theorem LZ:∀(is:List Nat) {l:Array Bool} {σ σ':List (Nat×Value)},Cq P ops n is σ=some σ'→mq md ops ex is l=true→uR P md ops n ex is l σ=some (yP l is,σ')
 |[],_,_,_,h,_=>by injection h with h;subst h;rfl
 | i :: is, l, σ, σ', h, hk => by
  unfold Cq at h
  unfold mq at hk
  rw [Bool.and_eq_true] at hk
  split at h
  ·rename_i s hs
   unfold uR
   rw [if_pos hk.1,hs]
   exact LZ is h hk.2
  ·cases h
theorem Vp (is:List Nat) (h:Cq P ops n is σ=some σ':=by exact rfl) (hk:mq md ops ex is listed=true:=by kernel_rfl) (hQ:∀c (a:Act) d v w,Q (.panic c) (a.put d v) w→Q (.panic c) a w:=by intro _ _ d _ _ h;cases d<;>exact h)
 (k:VV W w n D σ' fs gs (qk P md ops Q S ex fuel (yP listed is))) (hS:∀w,Mem W w gs→S w:=by exact fun _ h=>h):VV W w n D σ fs gs (qk P md ops Q S ex (fuel+is.length) listed):=
 fun a Z HM HS=>Il hQ is Z (fun _=>hS _ HS) (LZ is h hk) fun a Z=>k a Z HM HS
theorem Vq (is:List Nat) (new:List (Nat×Value)) (h:(Cq P ops n is σ).map (fun s=>(thin s σ new,new.map fun p=>s.lookup p.1))=some (true,new.map fun p=>some p.2):=by kernel_rfl) (hk:mq md ops ex is listed=true:=by kernel_rfl) (hQ:∀c (a:Act) d v w,Q (.panic c) (a.put d v) w→Q (.panic c) a w:=by intro _ _ d _ _ h;cases d<;>exact h)
 (k:VV W w n D (new++σ) fs gs (qk P md ops Q (fun wS=>Mem W wS gs) ex fuel (yP listed is))):VV W w n D σ fs gs (qk P md ops Q (fun wS=>Mem W wS gs) ex (fuel+is.length) listed):=by
 cases hs:Cq P ops n is σ with
 |none=>rw [hs] at h;cases h
 |some s=>
  rw [hs] at h
  injection h with h
  injection h with h1 h2
  have hA:=LZ is hs hk
  obtain ⟨full,hf⟩:=LK is hA
  exact fun a Z HM HS=>Il hQ is Z (fun _=>HS) hA fun a Z=>k a (Z.thin hf h1 h2) HM HS
section
variable {i:Nat}
theorem VV.yl (h:fE ops σ n i=some (d,op)) (hk:wP md ops ex listed i=true) (hQ:∀c (a:Act) v w,Q (.panic c) (a.put (some d) v) w→Q (.panic c) a w) (hy:∀o:Oper,o.op=op→Yl P (fun wS=>Mem W wS gs) σ o v)
 (k:VV W w n D ((d,v)::σ) fs gs (qk P md ops Q (fun wS=>Mem W wS gs) ex fuel (listed.setIfInBounds i true))):VV W w n D σ fs gs (qk P md ops Q (fun wS=>Mem W wS gs) ex (fuel+1) listed):=by
 obtain ⟨o,ho,hw,hd,hdn,he⟩:=Ef h
 exact fun a Z HM HS=>D5 Z HS ho hw hd hdn hk (fun c a w=>by rw [hd];exact hQ c a v w) (hy o he) fun a Z=>k a Z HM HS
theorem VV.pu (h:fE ops σ n i=some (d,op)) (hk:nA md ops ex listed i=true) (hQ:∀c (a:Act) v w,Q (.panic c) (a.put (some d) v) w→Q (.panic c) a w) (hy:∀o:Oper,o.op=op→∀S',Yl P S' σ o v)
 (k:VV W w n D ((d,v)::σ) fs gs (qk P md ops Q (fun wS=>Mem W wS gs) ex fuel (listed.setIfInBounds i true))):VV W w n D σ fs gs (qk P md ops Q (fun wS=>Mem W wS gs) ex (fuel+1) listed):=by
 obtain ⟨o,ho,hw,hd,hdn,he⟩:=Ef h
 exact fun a Z HM HS=>ze Z (fun _=>HS) ho hw hd hdn hk (fun c a w=>by rw [hd];exact hQ c a v w) (hy o he) fun a Z=>k a Z HM HS
theorem VV.pG (h:fE ops σ n i=some (d,op)) (hr:Region.ready md ops listed=[i]) (k:∀(o:Oper) a,o.op=op→o.dst=some d→d<n→Fr a n D σ→Mem W w fs→o.wp P a w (fun a' w'=>(bP ex (listed.setIfInBounds i true)=false→Mem W w' gs)∧qk P md ops Q (fun wS=>Mem W wS gs) ex fuel (listed.setIfInBounds i true) a' w') Q):VV W w n D σ fs gs (qk P md ops Q (fun wS=>Mem W wS gs) ex (fuel+1) listed):=by
 obtain ⟨o,ho,hw,hd,hdn,he⟩:=Ef h
 exact fun a Z HM _=>pE [i] hr rfl (all_cons (jl Z ho hw (k o a he hd hdn Z HM)) all_nil)
end
theorem Vf (i off:Nat) {s f g b:Nat} {x:Operand} (h:fE ops σ n i=some (d,.fieldAddr s x f):=by exact rfl) (hx:look σ x=some (.pointer (some ⟨g,b,none⟩)):=by exact rfl) (hf:(Ca P s f==some off&&nA md ops ex listed i)=true:=by kernel_rfl) (hQ:∀c (a:Act) v w,Q (.panic c) (a.put (some d) v) w→Q (.panic c) a w:=by exact fun _ _ _ _ h=>h)
 (k:VV W w n D ((d,.pointer (some ⟨g,b+off,none⟩))::σ) fs gs (qk P md ops Q (fun wS=>Mem W wS gs) ex fuel (listed.setIfInBounds i true))):VV W w n D σ fs gs (qk P md ops Q (fun wS=>Mem W wS gs) ex (fuel+1) listed):=by
 rw [Bool.and_eq_true,beq_iff_eq] at hf
 exact VV.pu h hf.2 hQ (fun o ho _=>Yl.pure (by rw [ho];simp only [qG,hx,hf.1];rw [Addr.add_mid])) k
theorem Vc (i:Nat) {g off:Nat} {x:Operand} {t tb:TypeId} {cs:Array Value} (O:At gs (.blk g cs tb)) (h:fE ops σ n i=some (d,.load t x):=by exact rfl) (hx:look σ x=some (.pointer (some ⟨g,off,none⟩)):=by exact rfl) (hv:nth cs.toList off=some v:=by exact rfl) (ht:(fT P t&&wP md ops ex listed i)=true:=by kernel_rfl) (hQ:∀c (a:Act) v w,Q (.panic c) (a.put (some d) v) w→Q (.panic c) a w:=by exact fun _ _ _ _ h=>h)
 (k:VV W w n D ((d,v)::σ) fs gs (qk P md ops Q (fun wS=>Mem W wS gs) ex fuel (listed.setIfInBounds i true))):VV W w n D σ fs gs (qk P md ops Q (fun wS=>Mem W wS gs) ex (fuel+1) listed):=by
 rw [Bool.and_eq_true] at ht
 exact VV.yl h ht.2 hQ (fun o ho=>Yl.qn ho hx ht.1 fun _ h=>let ⟨_,hi⟩:=O.get;h.cell hi (Iz hv)) k
theorem Vl (i:Nat) {x:Operand} {t:TypeId} {A:Option Addr} {m c:Nat} (h:fE ops σ n i=some (d,.call {callee:= .builtin .len,args:= #[x],argTypes:= #[t]}):=by exact rfl) (hx:look σ x=some (.slice A m c):=by exact rfl) (ht:(kE P t&&nA md ops ex listed i)=true:=by kernel_rfl) (hQ:∀c (a:Act) v w,Q (.panic c) (a.put (some d) v) w→Q (.panic c) a w:=by exact fun _ _ _ _ h=>h)
 (k:VV W w n D ((d,.int .i64 (m:Int))::σ) fs gs (qk P md ops Q (fun wS=>Mem W wS gs) ex fuel (listed.setIfInBounds i true))):VV W w n D σ fs gs (qk P md ops Q (fun wS=>Mem W wS gs) ex (fuel+1) listed):=by
 rw [Bool.and_eq_true] at ht
 exact VV.pu h ht.2 hQ (fun o ho _=>Yl.len ho hx ht.1) k
theorem Vn (i:Nat) {x:Operand} {p:Addr} (h:fE ops σ n i=some (d,.nilCheck x):=by exact rfl) (hx:look σ x=some (.pointer (some p)):=by exact rfl) (ht:nA md ops ex listed i=true:=by kernel_rfl) (hQ:∀c (a:Act) v w,Q (.panic c) (a.put (some d) v) w→Q (.panic c) a w:=by exact fun _ _ _ _ h=>h)
 (k:VV W w n D ((d,.pointer (some p))::σ) fs gs (qk P md ops Q (fun wS=>Mem W wS gs) ex fuel (listed.setIfInBounds i true))):VV W w n D σ fs gs (qk P md ops Q (fun wS=>Mem W wS gs) ex (fuel+1) listed):=
 VV.pu h ht hQ (fun o ho _=>Yl.nilCheck ho hx) k
theorem Vx (i:Nat) {x:Operand} {e:Nat} {vs:Array Value} (h:fE ops σ n i=some (d,.extract x e):=by exact rfl) (hx:look σ x=some (.tuple vs):=by exact rfl) (hv:nth vs.toList e=some v:=by exact rfl) (ht:nA md ops ex listed i=true:=by kernel_rfl) (hQ:∀c (a:Act) v w,Q (.panic c) (a.put (some d) v) w→Q (.panic c) a w:=by exact fun _ _ _ _ h=>h)
 (k:VV W w n D ((d,v)::σ) fs gs (qk P md ops Q (fun wS=>Mem W wS gs) ex fuel (listed.setIfInBounds i true))):VV W w n D σ fs gs (qk P md ops Q (fun wS=>Mem W wS gs) ex (fuel+1) listed):=
 VV.pu h ht hQ (fun o ho _=>Yl.pure (by rw [ho];simp only [qG,hx];exact Iz hv)) k
theorem Vy (i:Nat) (ho:ops[i]?=some o:=by exact rfl) (hw:bX ops σ o=some true:=by exact rfl) (hd:o.dst=some d:=by exact rfl) (hdn:d<n:=by decide) (h:Yl P (fun wS=>Mem W wS gs) σ o v) (ht:wP md ops ex listed i=true:=by kernel_rfl) (hQ:∀c (a:Act) w,Q (.panic c) (a.put o.dst v) w→Q (.panic c) a w:=by exact fun _ _ _ h=>h)
 (k:VV W w n D ((d,v)::σ) fs gs (qk P md ops Q (fun wS=>Mem W wS gs) ex fuel (listed.setIfInBounds i true))):VV W w n D σ fs gs (qk P md ops Q (fun wS=>Mem W wS gs) ex (fuel+1) listed):=
 fun a Z HM HS=>D5 Z HS ho hw hd hdn ht hQ h fun a Z=>k a Z HM HS
theorem Vo (u:Value) (h:v=u) (k:VV W w n D ((d,u)::σ) fs gs X):VV W w n D ((d,v)::σ) fs gs X:=by subst h;exact k
theorem VH {p:Prop} (h:p) (k:p→VV W w n D σ fs gs X):VV W w n D σ fs gs X:=k h
section
variable {x y:Operand} {t t2:TypeId} {k:Go.IntKind} {m p B:Nat}
theorem VV.bin (i:Nat) {bo:BinOp} {u:Value} {a1 a2:Value} (h:fE ops σ n i=some (d,.binOp bo t x y t2)) (hx:look σ x=some a1) (hy:look σ y=some a2) (ht:nA md ops ex listed i=true) (hQ:∀c (a:Act) v w,Q (.panic c) (a.put (some d) v) w→Q (.panic c) a w) (hn:DW a1=true) (hb:qR bo a1 a2=some v) (e:v=u)
 (K:VV W w n D ((d,u)::σ) fs gs (qk P md ops Q (fun wS=>Mem W wS gs) ex fuel (listed.setIfInBounds i true))):VV W w n D σ fs gs (qk P md ops Q (fun wS=>Mem W wS gs) ex (fuel+1) listed):=by
 subst e
 exact VV.pu h ht hQ (fun o ho _=>Yl.pure (by rw [ho];simp only [qG,hx,hy,hn,if_true];exact hb)) K
theorem Va (i:Nat) (h:fE ops σ n i=some (d,.binOp .add t x y t2):=by exact rfl) (hx:look σ x=some (.int k (m:Int)):=by exact rfl) (hy:look σ y=some (.int k (p:Int)):=by exact rfl) (hB:gY k=some B:=by exact rfl) (hb:m+p≤B:=by omega) (ht:nA md ops ex listed i=true:=by kernel_rfl) (hQ:∀c (a:Act) v w,Q (.panic c) (a.put (some d) v) w→Q (.panic c) a w:=by exact fun _ _ _ _ h=>h)
 (K:VV W w n D ((d,.int k ((m+p:Nat):Int))::σ) fs gs (qk P md ops Q (fun wS=>Mem W wS gs) ex fuel (listed.setIfInBounds i true))):VV W w n D σ fs gs (qk P md ops Q (fun wS=>Mem W wS gs) ex (fuel+1) listed):=
 VV.bin i h hx hy ht hQ rfl (SG _ _ _) (by rw [show ((m:Int)+(p:Int))=((m+p:Nat):Int) from rfl,qc1 hB hb]) K
theorem L6 (i p:Nat) {z:Int} (h:fE ops σ n i=some (d,.binOp .add t x y t2):=by exact rfl) (hx:look σ x=some (.int k (m:Int)):=by exact rfl) (hy:look σ y=some (.int k z):=by exact rfl) (hz:z=(p:Int):=by exact rfl) (hB:gY k=some B:=by exact rfl) (hb:m+p≤B:=by omega) (ht:nA md ops ex listed i=true:=by kernel_rfl) (hQ:∀c (a:Act) v w,Q (.panic c) (a.put (some d) v) w→Q (.panic c) a w:=by exact fun _ _ _ _ h=>h)
 (K:VV W w n D ((d,.int k ((m+p:Nat):Int))::σ) fs gs (qk P md ops Q (fun wS=>Mem W wS gs) ex fuel (listed.setIfInBounds i true))):VV W w n D σ fs gs (qk P md ops Q (fun wS=>Mem W wS gs) ex (fuel+1) listed):=by
 subst hz;exact Va i h hx hy hB hb ht hQ K
theorem Ei (i p:Nat) {z:Int} (h:fE ops σ n i=some (d,.binOp .sub t x y t2):=by exact rfl) (hx:look σ x=some (.int k (m:Int)):=by exact rfl) (hy:look σ y=some (.int k z):=by exact rfl) (hz:z=(p:Int):=by exact rfl) (hB:gY k=some B:=by exact rfl) (hb:p≤m∧m-p≤B:=by omega) (ht:nA md ops ex listed i=true:=by kernel_rfl) (hQ:∀c (a:Act) v w,Q (.panic c) (a.put (some d) v) w→Q (.panic c) a w:=by exact fun _ _ _ _ h=>h)
 (K:VV W w n D ((d,.int k ((m-p:Nat):Int))::σ) fs gs (qk P md ops Q (fun wS=>Mem W wS gs) ex fuel (listed.setIfInBounds i true))):VV W w n D σ fs gs (qk P md ops Q (fun wS=>Mem W wS gs) ex (fuel+1) listed):=by
 subst hz
 exact VV.bin i h hx hy ht hQ rfl (SH _ _ _) (by rw [show ((m:Int)- (p:Int))=((m-p:Nat):Int) by omega,qc1 hB hb.2]) K
theorem Vw (i:Nat) (k:Go.IntKind) {k0:Go.IntKind} (h:fE ops σ n i=some (d,.convert t t2 x):=by exact rfl) (hx:look σ x=some (.int k0 (m:Int)):=by exact rfl) (hk:(uW P t t2==some k&&nA md ops ex listed i)=true:=by kernel_rfl) (hB:gY k=some B:=by exact rfl) (hb:m≤B:=by omega) (hQ:∀c (a:Act) v w,Q (.panic c) (a.put (some d) v) w→Q (.panic c) a w:=by exact fun _ _ _ _ h=>h)
 (K:VV W w n D ((d,.int k (m:Int))::σ) fs gs (qk P md ops Q (fun wS=>Mem W wS gs) ex fuel (listed.setIfInBounds i true))):VV W w n D σ fs gs (qk P md ops Q (fun wS=>Mem W wS gs) ex (fuel+1) listed):=by
 rw [Bool.and_eq_true,beq_iff_eq] at hk
 obtain ⟨hk,ht⟩:=hk
 refine VV.pu h ht hQ (fun o ho _=>Yl.pure (by
  rw [ho]
  unfold uW at hk
  split at hk
  ·rename_i q1 q2 h1 h2
   injection hk with hk
   subst hk
   simp only [qG,h1,h2,hx,qc1 hB hb]
  ·cases hk)) K
end
theorem VA (i:Nat) (m:pF fs gs) (cs:Array Value) {e:TypeId} (h:fE ops σ n i=some (d,.alloc e):=by exact rfl) (hz:yG P e=some cs:=by kernel_rfl) (hr:Region.ready md ops listed=[i]:=by kernel_rfl)
 (k:∀w' g,VV W w' n D ((d,.pointer (some ⟨g,0,none⟩))::σ) (.blk g cs e::fs) gs (qk P md ops Q (fun wS=>Mem W wS gs) ex fuel (listed.setIfInBounds i true))):VV W w n D σ fs gs (qk P md ops Q (fun wS=>Mem W wS gs) ex (fuel+1) listed):=
 VV.pG h hr fun _ _ he hd hdn Z HM=>LM Z HM he hz hd hdn fun a w' g Z HM=>⟨fun _=>HM.sel (.f m),k w' g a Z HM (HM.sel (.f m))⟩
theorem VI (i:Nat) (m:pF fs gs) {f:FuncId} {xs:Array Operand} {ts:Array TypeId} {vs:List Value} (h0:fE ops σ n i=some (d,.call {callee:= .value (.func f),args:=xs,argTypes:=ts}):=by exact rfl) (hv:looks σ xs.toList=some vs:=by exact rfl) (h:Mem W w fs→Calls P f vs.toArray w (fun r w'=>r= .returned v∧Below w.heap.size w w')) (hf:callable P f=true:=by kernel_rfl) (hr:Region.ready md ops listed=[i]:=by kernel_rfl)
 (k:∀w',Below w.heap.size w w'→VV W w' n D ((d,v)::σ) fs gs (qk P md ops Q (fun wS=>Mem W wS gs) ex fuel (listed.setIfInBounds i true))):VV W w n D σ fs gs (qk P md ops Q (fun wS=>Mem W wS gs) ex (fuel+1) listed):=
 VV.pG h0 hr fun _ _ he hd hdn Z HM=>wR Z he hv hf hd hdn (h HM) fun _ w' ⟨h1,h2⟩=>⟨v,h1,fun a Z=>⟨fun _=>(HM.call h2).sel m,k w' h2 a Z (HM.call h2) ((HM.call h2).sel m)⟩⟩
theorem VK (i:Nat) (m:pF fs gs) {f:FuncId} {xs:Array Operand} {ts:Array TypeId} {vs:List Value} {V:Option Addr→Nat→Value} {l sz:Nat} {e:TypeId} {ys:List Value} (h0:fE ops σ n i=some (d,.call {callee:= .value (.func f),args:=xs,argTypes:=ts}):=by exact rfl) (hv:looks σ xs.toList=some vs:=by exact rfl) (h:Mem W w fs→Calls P f vs.toArray w (fun r w'=>(∃A c,r= .returned (V A c)∧w'.ownsRow w.heap.size e sz (.slice A l c) l ys∧l≤c)∧Below w.heap.size w w')) (hf:callable P f=true:=by kernel_rfl) (hr:Region.ready md ops listed=[i]:=by kernel_rfl)
 (k:∀A c w',l≤c→VV W w' n D ((d,V A c)::σ) (.row (.slice A l c) l ys e sz::fs) gs (qk P md ops Q (fun wS=>Mem W wS gs) ex fuel (listed.setIfInBounds i true))):VV W w n D σ fs gs (qk P md ops Q (fun wS=>Mem W wS gs) ex (fuel+1) listed):=
 VV.pG h0 hr fun _ _ he hd hdn Z HM=>wR Z he hv hf hd hdn (h HM) fun r w' ⟨⟨A,c,h1,h2,h3⟩,h4⟩=>⟨_,h1,fun a Z=>⟨fun _=>(HM.aQ h4 h2).sel (.f m),k A c w' h3 a Z (HM.aQ h4 h2) ((HM.aQ h4 h2).sel (.f m))⟩⟩
end
def grL (x:Gr):List Value:=[.int .i64 x.parent,.int .i64 x.weight]
def tkL (x:Tk):List Value:=[.int .i64 x.id,.int .i64 x.group,.int .i64 x.weight,.int .i64 x.cpu,.int .u64 (x.mask:Int),.bool x.ready,.int .u64 (x.v:Int),.int .u32 (x.r:Int)]
def Qn (x:Sp):List Value:=[.int .u64 (x.v:Int),.int .u32 (x.r:Int),.int .u64 (x.floor:Int)]
def Gr.cells (x:Gr):Array Value:= #[.int .i64 x.parent,.int .i64 x.weight]
def Tk.cells (x:Tk):Array Value:= #[.int .i64 x.id,.int .i64 x.group,.int .i64 x.weight,.int .i64 x.cpu,.int .u64 (x.mask:Int),.bool x.ready,.int .u64 (x.v:Int),.int .u32 (x.r:Int)]
def Sp.cells (x:Sp):Array Value:= #[.int .u64 (x.v:Int),.int .u32 (x.r:Int),.int .u64 (x.floor:Int)]
structure Rw where
 A:Option Addr
 c:Nat
 l:List Sp
def Rw.zero:Rw:=⟨none,0,[]⟩
def Rw.val (x:Rw):Value:= .slice x.A x.l.length x.c
def Rw.own (x:Rw):Own:=⟨x.A,x.l.length,x.c,x.l.flatMap Qn⟩
structure kC where
 fQ:Int
 eH:Nat
 gA:Option Addr
 gc:Nat
 gs:List Gr
 lA:Option Addr
 lc:Nat
 cl:List Int
 uA:Option Addr
 uc:Nat
 cu:List Int
 tA:Option Addr
 tc:Nat
 ts:List Tk
 sA:Option Addr
 sc:Nat
 rs:List Rw
def kC.Qo (x:kC):uL:=⟨x.fQ,x.eH,x.gs,x.cl,x.cu,x.ts,x.rs.map Rw.l⟩
def kC.cells (x:kC):Array Value:= #[.int .i64 x.fQ,.int .u64 (x.eH:Int),.slice x.gA x.gs.length x.gc,.slice x.lA x.cl.length x.lc,.slice x.uA x.cu.length x.uc,.slice x.tA x.ts.length x.tc,.slice x.sA x.rs.length x.sc]
structure tN (w:World) (x:kC):Prop where
 g:Rd w w.heap.size 2 x.gA x.gs.length (x.gs.flatMap grL)
 l:Rd w w.heap.size 1 x.lA x.cl.length (x.cl.map dQ)
 u:Rd w w.heap.size 1 x.uA x.cu.length (x.cu.map dQ)
 t:Rd w w.heap.size 8 x.tA x.ts.length (x.ts.flatMap tkL)
 s:Rd w w.heap.size 1 x.sA x.rs.length (x.rs.map Rw.val)
 r:∀y∈x.rs,Rd w w.heap.size 3 y.A y.l.length (y.l.flatMap Qn)
structure Y5 (x:kC):Prop where
 g:x.gs.length≤x.gc
 l:x.cl.length≤x.lc
 u:x.cu.length≤x.uc
 t:x.ts.length≤x.tc
 s:x.rs.length≤x.sc
 r:∀y∈x.rs,y.l.length≤y.c
structure Y6 (x:kC):Prop where
 g:x.gs.length≤1000000
 l:x.cl.length≤1000000
 u:x.cu.length≤1000000
 t:x.ts.length≤1000000
 s:x.rs.length≤1000000
 r:∀y∈x.rs,y.l.length≤1000000
theorem tN.old {W w:World} {fs:List Fact} {x:kC} (h:tN W x) (HM:Mem W w fs):tN w x:=⟨HM.old h.g,HM.old h.l,HM.old h.u,HM.old h.t,HM.old h.s,fun y hy=>HM.old (h.r y hy)⟩
theorem tN.row {w:World} {x:kC} (h:tN w x) {g:Nat} (hg:g<x.rs.length):Rd w w.heap.size 3 (x.rs.getD g Rw.zero).A (x.rs.getD g Rw.zero).l.length ((x.rs.getD g Rw.zero).l.flatMap Qn):=h.r _ (q7 Rw.zero hg)
section
variable {w w':World} {p q:Prop} [Decidable p] [Decidable q]
end
section
variable {x:kC} {t:Tk}
end
section
variable {x:kC} {g c i:Nat}
structure ShAt (x:kC):Prop where
 cfg:Gx x.Qo=true
 cl:(x.cl.length:Int)=x.fQ
 cu:(x.cu.length:Int)=x.fQ
 rs:x.rs.length=x.gs.length
 cls:∀c,c<x.cl.length→Qk (x.cl.getD c 0)=true
 row:∀g,g<x.rs.length→rowOk x.Qo g=true
 tk:∀i,i<x.ts.length→Qm x.Qo i=true
variable {z:Sp}
end
def Mb.nums (m:Mb):List Nat:=[m.v,m.k,m.id]
def Mb.cells (m:Mb):Array Value:= #[.int .u64 (m.v:Int),.int .u64 (m.k:Int),.int .u64 (m.id:Int)]
def Mb.Ok (m:Mb):Prop:=m.v<18446744073709551616∧m.k<18446744073709551616∧m.id<18446744073709551616
section
variable {x:kC} {g c h:Nat} {m:Nat→List Mb}
end
section
variable {P:Program} {S:World→Prop} {σ:List (Nat×Value)} {o:Oper}
end
section
variable {P:Program} {Q:Exit→Act→World→Prop} {W:World} {a:Act} {w:World} {n d:Nat} {D:List Deferred} {σ:List (Nat×Value)} {fs:List Fact} {o:Oper} {K:Act→World→Prop}
end
def Fq (w:World) (k:Nat) (W:World):Prop:=W.heap[w.heap.size]?=some (.cells #[.int .i64 (k:Int)] 3 (0,0))∧w.grownBy W none∧w.heap.size+2≤W.heap.size
def Fu (w:World) (x k:Nat) (a':Act) (_:World):Prop:=
 ∃p,(gq 10 x)[k]?=some p∧a'={tmps:= #[.int .u64 (x:Int),undef,.int .i64 0,.pointer (some ⟨w.heap.size,0,none⟩),.int .u64 (x:Int),.func (.func 239) #[] #[.pointer (some ⟨w.heap.size+1,0,none⟩)],.int .u8 (p.1:Int),.bool p.2,undef,undef,undef],defers:=[]}
theorem q13 {W:World} {g:Nat} {x y:Value} {t:TypeId} (h:W.heap[g]?=some (.cells #[x] t (0,0))):(W.setCell ⟨g,0,none⟩ y).heap[g]?=some (.cells #[y] t (0,0)):=by
 simp [World.setCell,Array.getElem?_modify,h]
set_option maxRecDepth 100000 in
set_option maxHeartbeats 400000 in
theorem qxz (x:Nat) (w:World) (hx:x<18446744073709551616):
  Calls Tryz.prog 174 #[.int .u64 (x:Int)] w fun e w'=>e= .returned (.int .i64 ((ak x).length:Int))∧Below w.heap.size w w':=by
 refine callsIn_wide.1 (callsIn_of_wp_marks (n:=0) Tryz.func174 rfl trivial ?_ rfl)
 simp only [Tryz.ntmps174,List.size_toArray,List.length_cons,List.length_nil,Nat.reduceAdd,Nat.reduceSub,Array.replicate_succ,Array.replicate_zero,List.push_toArray,List.append_toArray,List.nil_append,List.cons_append]
 gi_wp2_with (refine ⟨trivial,rfl,?_⟩;refine (callsIn_wide.2 (Rp x _)).mono ?_;rintro e w' ⟨rfl,rfl⟩)
 obtain ⟨W0,hW0⟩:∃W0,W0=(w.alloc (.cells #[.int .i64 0] 3)).alloc (.cells #[.int .u64 (x:Int)] 41):=⟨_,rfl⟩
 have hsz:W0.heap.size=w.heap.size+2:=by rw [hW0];simp
 have hlen:=Du 10 x
 have hbx:W0.heap[w.heap.size]?=some (.cells #[.int .i64 0] 3 (0,0)):=by
  subst hW0
  exact (Below.heap_alloc _ _ _ (by simp)).trans (World.alloc_heap_new w _)
 have hgr:w.grownBy W0 none:=by subst hW0;exact (World.grownBy_alloc w _ _).trans (World.grownBy_alloc _ _ _)
 have hxc:W0.cell? ⟨w.heap.size+1,0,none⟩=some (.int .u64 (x:Int)):=by subst hW0;have:=World.cell?_alloc_new (w.alloc (.cells #[.int .i64 0] 3)) #[.int .u64 (x:Int)] 41 0;rw [World.size_alloc] at this;exact this
 have Lc:W0.frozen? ⟨w.heap.size+1,0,none⟩=false:=by subst hW0;have:=World.frozen?_alloc_new (w.alloc (.cells #[.int .i64 0] 3)) #[.int .u64 (x:Int)] 41 0;rw [World.size_alloc] at this;exact this
 rw [←hW0]
 clear hW0
 refine Ri rfl (enters_of Tryz.func239 kr rfl) (Ro (w.heap.size+1) x W0 hx hxc Lc) (by intro y hy;obtain ⟨p,_,rfl⟩:=List.mem_map.1 hy;rfl) (by simp [hsz])
  (fun _ b=>b=w.heap.size) (Fq w) (fun _ _ _=>False) ?hJ ?hJx ?hJ0 ?hJx0 ?hTd ?hN ?h0 (Fu w x) ?hA ?hassign ?hbody ?hdone ?hstop
 case hJ=>
  rintro k W W' ⟨hb,hg,hs⟩ hk
  have h1:w.heap.size∉ [w.heap.size+1]:=by simp
  exact ⟨⟨hk.obj _ _ hb rfl h1,Keep.grown hg hk om (by simp),Nat.le_trans hs hk.size⟩,fun b h=>h⟩
 case hJx=>exact fun _ _ _ _ h _=>h.elim
 case hJ0=>rintro k W ⟨_,_,hs⟩;omega
 case hJx0=>exact fun _ _ _ h=>h.elim
 case hTd=>rintro k W b ⟨hb,_⟩ rfl;exact ⟨_,hb,rfl⟩
 case hN=>rintro b rfl ht;omega
 case h0=>exact ⟨hbx,hgr,by omega⟩
 case hA=>exact fun _ _ _ _ h _=>h
 case hassign=>
  rintro l k hk W _
  simp only [List.getElem_map,pq]
  have hp:(gq 10 x)[k]?=some ((gq 10 x)[k]'(by simpa using hk)):=List.getElem?_eq_getElem _
  generalize (gq 10 x)[k]'(by simpa using hk)=p at hp
  gi_wp2
  exact ⟨dN.refl _ _,p,hp,by simp⟩
 case hbody=>
  rintro l k a' W hk hl hr ⟨p,hp,rfl⟩ ⟨hb,hg,hs⟩
  have hc:W.cell? ⟨w.heap.size,0,none⟩=some (.int .i64 (k:Int)):=by simp [World.cell?,hb]
  have hf:W.frozen? ⟨w.heap.size,0,none⟩=false:=by simp [World.frozen?,hb]
  have hkl:k<(gq 10 x).length:=by simpa using hk
  have hki:(k:Int)≤10:=by omega
  have HB:=hide hb
  have HG:=hide hg
  clear hp hr hb hg hbx hgr
  gi_wp2
  rw [Oper.semAt_eq _ _ _ (by intro c h;cases h)]
  have e1:∀(ρ:Operand→Value) (o:Oper),o.op= .load 3 (.tmp 3)→ρ (.tmp 3)= .pointer (some ⟨w.heap.size,0,none⟩)→(execOp ρ o).run Tryz.prog W= .ok (.value (.int .i64 (k:Int))) W:=fun ρ o h1 h2=>by
   have hone:(isAgg 3).run Tryz.prog W= .ok false W:=by kernel_rfl
   unfold execOp
   simp [h1,h2,Instr.loadAt,Instr.sureAddr,loadVar,hone,load,Sem.run,hc]
  rw [e1 _ _ rfl rfl,Oper.uponIn_value]
  gi_wp2
  rw [Oper.semAt_eq _ _ _ (by intro c h;cases h)]
  have e2:∀(ρ:Operand→Value) (o:Oper),o.op= .binOp .add 3 (.tmp 8) (.const (.int .i64 1)) 3→ρ (.tmp 8)= .int .i64 (k:Int)→ρ (.const (.int .i64 1))= .int .i64 1→(execOp ρ o).run Tryz.prog W= .ok (.value (.int .i64 ((k:Int)+1))) W:=fun ρ o h1 h2 h3=>by
   unfold execOp
   have e:IntKind.i64.wrap ((k:Int)+1)=(k:Int)+1:=IntWalk.i64_in _ om
   have eb:(binOp .add 3 (.int .i64 (k:Int)) (.int .i64 1)).run Tryz.prog W= .ok (.int .i64 ((k:Int)+1)) W:=by rw [Ih (P:=Tryz.prog) (v:= .int .i64 (IntKind.i64.wrap ((k:Int)+1))) rfl 3 W,e]
   simp only [h1,h2,h3,Sem.run_bind,wM (P:=Tryz.prog) .add 3 (.tmp 8) (.const (.int .i64 1)) (a:= .int .i64 (k:Int)) rfl,Result.andThen_ok,eb,Sem.run_pure]
  rw [e2 _ _ rfl rfl rfl,Oper.uponIn_value]
  gi_wp2
  rw [Oper.semAt_eq _ _ _ (by intro c h;cases h)]
  have e3:∀(ρ:Operand→Value) (o:Oper),o.op= .store 3 (.tmp 3) (.tmp 9)→ρ (.tmp 3)= .pointer (some ⟨w.heap.size,0,none⟩)→ρ (.tmp 9)= .int .i64 ((k:Int)+1)→(execOp ρ o).run Tryz.prog W= .ok .skip (W.setCell ⟨w.heap.size,0,none⟩ (.int .i64 ((k:Int)+1))):=fun ρ o h1 h2 h3=>by
   unfold execOp
   simp only [h1,h2,h3,Sem.run_bind,LP (P:=Tryz.prog) (t:=3) (v:= .int .i64 ((k:Int)+1)) kr rfl hc hf,Result.andThen_ok,Sem.run_pure]
  rw [e3 _ _ rfl rfl rfl,Oper.uponIn_skip]
  gi_wp2
  have hst:jo (fun _ b=>b=w.heap.size) W (W.setCell ⟨w.heap.size,0,none⟩ (.int .i64 ((k:Int)+1))):=
   ⟨rfl,rfl,rfl,by simp [World.setCell],fun b _ hT=>Below.heap_setCell _ _ _ _ hT,fun b h=> .inl h⟩
  refine ⟨hst,?_,?_,by have:=hst.size;omega⟩
  ·exact q13 HB.out
  ·exact hst.grown HG.out (fun b hb1 hb2=>by omega)
 case hdone=>
  rintro D W hD ⟨hb,hg,hs⟩ hK
  have HG:=hide hg
  have hc:W.cell? ⟨w.heap.size,0,none⟩=some (.int .i64 (((gq 10 x).map pq).length:Int)):=by simp [World.cell?,hb]
  have hkp:Keep W0.heap.size [] W (W.putObj D (.deferred none)):=Keep.putObj W _ hK rfl hD
  clear hb hg hbx hgr
  gi_wp2
  refine ⟨by simp,.inl ⟨_,_,rfl,run_takeDeferred hK,?_⟩⟩
  refine ⟨_,results_tmp rfl _ _ _,?_,?_⟩
  ·simp [ak]
  ·exact (Below.refl _ _).grown (Keep.grown HG.out hkp om (by simp)) (Nat.le_refl _) (fun _ h=>by cases h)
 case hstop=>exact fun _ _ _ _ _ _ _ h _=>h.elim
structure KT where
 next:Int
 st:kC
def KT.cells (s:KT):Array Value:= #[.int .i64 s.next,.int .i64 s.st.fQ,.int .u64 (s.st.eH:Int),.slice s.st.gA s.st.gs.length s.st.gc,.slice s.st.lA s.st.cl.length s.st.lc,.slice s.st.uA s.st.cu.length s.st.uc,.slice s.st.tA s.st.ts.length s.st.tc,.slice s.st.sA s.st.rs.length s.st.sc]
structure KU where
 nm:ByteArray
 fr:Nat
 to:Nat
theorem zi:SI Tryz.prog 73 11:=⟨by kernel_rfl,by kernel_rfl⟩
theorem q6d:SI Tryz.prog 424 12:=⟨by kernel_rfl,by kernel_rfl⟩
def q6e (w:World) (er:Nat) (R:List Nat) (r:Ending) (w':World):Prop:=
 (∃A c,r= .returned (.tuple #[.slice A R.length c,.int .i64 (er:Int)])∧w'.ownsRow w.heap.size 41 1 (.slice A R.length c) R.length (R.map dB)∧R.length≤c)∧Below w.heap.size w w'
section
variable {b:Bs} {e:Ev} {w w':World} {v:Bool}
theorem IG (hb:Below w.heap.size w w') (h:v=true↔(1≤b.seq∧b.seq≤281474976710656∧0≤b.time∧b.time≤281474976710656)):Is w (.bool b.right) (.returned (.bool v)) w':=by
 refine ⟨?_,hb⟩
 unfold Bs.right
 rw [show v=decide _ from (Bool.eq_iff_iff.2 (h.trans decide_eq_true_iff.symm))]
theorem TF (hb:Below w.heap.size w w') (h:v=true↔(b.seq≤e.seq∧b.time≤e.time)):Is w (.bool (b.behind e)) (.returned (.bool v)) w':=by
 refine ⟨?_,hb⟩
 unfold Bs.behind
 rw [show v=decide _ from (Bool.eq_iff_iff.2 (h.trans decide_eq_true_iff.symm))]
end
theorem q07 (e:Ev) (he:e.Ok) (B:Nat) (w:World) (hL:Laid B w) (hB:B≤w.heap.size) {er:Nat} {R:List Nat} (h1:e.check=er) (h2:e.qx=R):Calls Tryz.prog 286 #[.agg e.cells] w (q6e w er R):=by
 subst h1 h2
 refine (qtm e he B w hL hB).mono fun r w' ⟨⟨v,h,ho⟩,hb⟩=>?_
 obtain ⟨A,c,rfl,hc⟩:=zw ho
 exact ⟨⟨A,c,h,ho,hc⟩,hb⟩
theorem qwv (e:Ev) (he:e.Ok) (B:Nat) (w:World) (hL:Laid B w) (hB:B≤w.heap.size):Calls Tryz.prog 243 #[.agg e.cells] w (Is w (.int .i64 (e.check:Int))):=Dz e he B w hL hB
theorem q08 (e:Ev):e.qx.length≤4:=by
 unfold Ev.qx
 split
 ·unfold Ev.vals;rw [List.length_map];exact qO _
 ·exact Nat.zero_le _
theorem q4e {b:Bs} {e:Ev} {er:Nat} (h:e.check=er) (h0:er≠0):qs b e=er∧zz b e=[]:=by
 have:qs b e=er:=by unfold qs;rw [if_pos om,h]
 exact ⟨this,by unfold zz;rw [if_neg om]⟩
theorem TG {b:Bs} {e:Ev} (h:e.check=0) (h2:¬(b.right=true∧b.behind e=true)):qs b e=70∧zz b e=[]:=by
 have:qs b e=70:=by unfold qs;rw [if_neg om,if_neg h2]
 exact ⟨this,by unfold zz;rw [if_neg om]⟩
theorem q4f {b:Bs} {e:Ev} (h:e.check=0) (h1:b.right=true) (h2:b.behind e=true):qs b e=0∧zz b e=qq b e:=by
 have:qs b e=0:=by unfold qs;rw [if_neg om,if_pos ⟨h1,h2⟩]
 exact ⟨this,by unfold zz;rw [if_pos this]⟩
theorem Et {w w':World} {er Cu:Nat} {R:List Nat} {n:Int} (h:er=Cu∧R=[]) (hn:n=Cu) (hb:Below w.heap.size w w'):za w er R (.returned (.tuple #[.slice none 0 0,.int .i64 n])) w':=by
 obtain ⟨rfl,rfl⟩:=h
 subst hn
 exact ⟨⟨none,0,rfl,World.ownsRow_nil _ _ _ _,Nat.le_refl _⟩,hb⟩
theorem TH {w w':World} {er:Nat} {R L:List Nat} {A:Option Addr} {c:Nat} (h:er=0∧R=L) (ho:w'.ownsRow w.heap.size 5 1 (.slice A L.length c) L.length (L.map B8)) (hc:L.length≤c) (hb:Below w.heap.size w w'):za w er R (.returned (.tuple #[.slice A L.length c,.int .i64 0])) w':=by
 obtain ⟨rfl,rfl⟩:=h
 exact ⟨⟨A,c,rfl,ho,hc⟩,hb⟩
theorem TI (l:List Nat):∀u∈l.map dB,u.oneCell'=true:=by
 intro u hu
 obtain ⟨x,_,rfl⟩:=List.mem_map.1 hu
 rfl
theorem II {x:Int} {n:Nat} (h:0≤x∧x<9223372036854775808) (hn:x.toNat=n):Value.int .u64 (IntKind.u64.wrap x)= .int .u64 (n:Int):=by rw [IntKind.wrap_u64];congr 1;omega
theorem q09 {b:Bs} {e:Ev} {vs:List Nat} (he:e.Ok) (h:e.check=0) (hv:e.qx=vs) (h1:b.right=true) (h2:b.behind e=true):(0≤e.seq-b.seq∧e.seq-b.seq<9223372036854775808)∧(0≤e.time-b.time∧e.time-b.time<9223372036854775808)∧(∀x∈(e.seq-b.seq).toNat::(e.time-b.time).toNat::vs,x<18446744073709551616)∧qq b e=[e.kind]++((e.seq-b.seq).toNat::(e.time-b.time).toNat::vs).flatMap ak:=by
 have h3:=nu h
 have h4:=of_decide_eq_true h1
 have h5:=of_decide_eq_true h2
 have:=he.seq.2
 have:=he.time.2
 refine ⟨by omega,by omega,fun x hx=>?_,?_⟩
 ·rcases List.mem_cons.1 hx with rfl|hx
  ·omega
  rcases List.mem_cons.1 hx with rfl|hx
  ·omega
  rw [←hv] at hx
  unfold Ev.qx at hx
  rw [if_pos h] at hx
  obtain ⟨i,hi,rfl⟩:=List.mem_map.1 hx
  have k:=Li he h hi
  unfold Ev.num at k
  rw [IntKind.wrap_u64] at k
  omega
 ·unfold qq pz
  rw [←hv]
  unfold Ev.qx
  rw [if_pos h]
  rfl
theorem q4g {b:Bs} {e:Ev} {x:Nat} {bb ns:List Nat} {A:Prop} {B:Prop} {C:Prop} (h:e.check=x) (h0:x=0) (hb:b.right=true∧b.behind e=true) (hp:A∧B∧C∧qq b e=[e.kind]++ns.flatMap ak) (hbb:ns.flatMap ak=bb):qs b e=0∧zz b e=e.kind::bb:=by
 have h1:=q4f (by omega:e.check=0) hb.1 hb.2
 exact ⟨h1.1,by rw [h1.2,hp.2.2.2,hbb];rfl⟩
theorem TJ {w:World} {A:Option Addr} {c:Nat} {ns bb:List Nat} (hr:Rd w w.heap.size 1 A ns.length (ns.map dB)) (hv:∀x∈ns,x<18446744073709551616) (hl:ns.length≤6) (hbb:ns.flatMap ak=bb):Calls Tryz.prog 49 #[.slice A ns.length c] w (zh w bb):=by
 subst hbb
 exact Mj A ns.length c _ w hr hv om
theorem q4h {l:List Ev} {p:Option Ev} {k:Nat} (hk:k=l.length):bW p k (l.drop k)=(-1,0):=by
 rw [List.drop_eq_nil_of_le om]
 rfl
theorem row_step {l:List Ev} {p:Option Ev} {k:Nat} {e:Ev} (hk:k<l.length) (he:l.getD k Ev.zero=e):bW p k (l.drop k)=if e.check≠0 then ((k:Int),e.check) else if p.all (fun q=>e.after q)=false then ((k:Int),71) else bW (some e) (k+1) (l.drop (k+1)):=by
 rw [List.drop_eq_getElem_cons hk,bW]
 have:l[k]=e:=by rw [←he,List.getD_eq_getElem?_getD,List.getElem?_eq_getElem hk];rfl
 rw [this]
def iA (l:List Ev) (k:Nat):Option Ev:=if k=0 then none else some (l.getD (k-1) Ev.zero)
theorem q1a {l:List Ev} {k:Nat} {e:Ev} (he:l.getD k Ev.zero=e):iA l (k+1)=some e:=by unfold iA;rw [if_neg (Nat.succ_ne_zero k),Nat.add_sub_cancel,he]
theorem q1b {l:List Ev} {k:Nat} {e q:Ev} (h0:0<k) (hq:l.getD (k-1) Ev.zero=q) (h:¬(e.cpu=q.cpu∧q.seq<e.seq∧q.time≤e.time)):(iA l k).all (fun q=>e.after q)=false:=by
 unfold iA;rw [if_neg om,hq];exact decide_eq_false h
theorem qww {l:List Ev} {k:Nat} {e q:Ev} (hq:l.getD (k-1) Ev.zero=q) (h:k=0∨(e.cpu=q.cpu∧q.seq<e.seq∧q.time≤e.time)):(iA l k).all (fun q=>e.after q)=true:=by
 unfold iA
 by_cases hk:k=0
 ·rw [if_pos hk];rfl
 ·rw [if_neg hk,hq];exact decide_eq_true (h.resolve_left hk)
theorem IJ {l:List Ev} {k:Nat} {e q:Ev} {v:Bool} (hq:l.getD (k-1) Ev.zero=q) (h:v=true↔¬(k=0∨(e.cpu=q.cpu∧q.seq<e.seq∧q.time≤e.time))):Value.bool v= .bool (!(iA l k).all fun q=>e.after q):=by
 by_cases hk:k=0∨(e.cpu=q.cpu∧q.seq<e.seq∧q.time≤e.time)
 ·rw [qww hq hk,show v=false from (Bool.not_eq_true _).mp fun hv=>h.1 hv hk];rfl
 ·rw [q1b om hq om,h.2 hk];rfl
theorem IK {k:Nat} (h:0<k) (hk:k≤140737488355328):Value.int .i64 (IntKind.i64.wrap ((k:Int)-1))= .int .i64 ((k-1:Nat):Int):=by rw [IntKind.wrap_i64];congr 1;omega
theorem Mv {w w':World} {R:Int×Nat} {v n:Int} {m:Nat} (h:R=(v,m)) (hn:n=(m:Int)) (hb:Below w.heap.size w w'):Is w (.tuple #[.int .i64 R.1,.int .i64 (R.2:Int)]) (.returned (.tuple #[.int .i64 v,.int .i64 n])) w':=by
 subst h hn
 exact ⟨rfl,hb⟩
theorem yV {b:Bs} {l:List Ev} {v:Bool} (h:v=true↔¬(b.right=true∧(0<l.length→b.behind (l.getD 0 Ev.zero)=true))):Value.bool v= .bool (!(b.right&&l.head?.all b.behind)):=by
 have e:l.head?.all b.behind=true↔(0<l.length→b.behind (l.getD 0 Ev.zero)=true):=by
  cases l with
  |nil=>exact ⟨fun _ h=>absurd h (Nat.lt_irrefl 0),fun _=>rfl⟩
  |cons x r=>exact ⟨fun h _=>h,fun h=>h (Nat.succ_pos _)⟩
 rw [←e,←Bool.and_eq_true] at h
 by_cases hk:(b.right&&l.head?.all b.behind)=true
 ·rw [hk,show v=false from (Bool.not_eq_true _).mp fun hv=>h.1 hv hk];rfl
 ·rw [(Bool.not_eq_true _).mp hk,h.2 hk];rfl
theorem qts {b:Bs} {l:List Ev} {ri:Int} {re:Nat} (h:bL l=(ri,re)) (h0:re≠0):qr b l=re∧zd b l=[]:=by
 have e:qr b l=re:=by unfold qr;rw [h];exact if_pos h0
 exact ⟨e,by unfold zd;rw [if_neg om]⟩
theorem qqr {b:Bs} {l:List Ev} {ri:Int} {re:Nat} (h:bL l=(ri,re)) (h0:re=0) (h1:¬(b.right&&l.head?.all b.behind)=true):qr b l=70∧zd b l=[]:=by
 rw [Bool.and_eq_true] at h1
 have e:qr b l=70:=by unfold qr;rw [h,if_neg om,if_neg h1]
 exact ⟨e,by unfold zd;rw [if_neg om]⟩
theorem qtt {b:Bs} {l:List Ev} {ri:Int} {re k:Nat} {pre:List Nat} {bk:Bs} (h:bL l=(ri,re)) (h0:re=0) (h1:(b.right&&l.head?.all b.behind)=true) (hr:recs b l=pre++recs bk (l.drop k)) (hk:l.length≤k):qr b l=0∧zd b l=pre:=by
 rw [Bool.and_eq_true] at h1
 have e:qr b l=0:=by unfold qr;rw [h,if_neg om,if_pos h1]
 exact ⟨e,by unfold zd;rw [if_pos e,hr,List.drop_eq_nil_of_le hk];exact List.append_nil pre⟩
theorem qwx {b bk:Bs} {l:List Ev} {ri:Int} {re k:Nat} {e:Ev} (h:bL l=(ri,re)) (h0:re=0) (h1:(b.right&&l.head?.all b.behind)=true) (hk:k<l.length) (hb:bk=yU b l k) (he:l.getD k Ev.zero=e):qs bk e=0∧recs bk (l.drop k)=qq bk e++recs e.at (l.drop (k+1))∧e.at=yU b l (k+1)∧(qq bk e).length≤61:=by
 rw [Bool.and_eq_true] at h1
 have e1:l[k]=e:=by rw [←he,List.getD_eq_getElem?_getD,List.getElem?_eq_getElem hk];rfl
 have p:=Tv (by rw [h];exact h0) h1.1 h1.2 k hk
 rw [←hb,e1] at p
 refine ⟨p,by rw [List.drop_eq_getElem_cons hk,recs,e1],?_,Ms _ _⟩
 show _=(match l[k]? with|some e=>e.at|none=>b)
 rw [List.getElem?_eq_getElem hk,e1]
theorem TK (e:Ev) (w:World):Calls Tryz.prog 275 #[.agg e.cells] w (Is w (.agg e.at.cells)):=by
 refine (dh Tryz.func275 8) ?_
 refine (JP∘JE) fun w1 g1=>(JA #[vI 0,vI 0]) fun w2 g2=>(Jr∘Jg 0 O1∘Jg 1 O1∘Jy (v:= .agg #[vI e.seq,vI e.time]) (h:=by exact Yl.build (vs:=[(0,vI e.seq),(1,vI e.time)]) rfl kr kr)∘JV eZ aZ) fun Mw=>(uV∘Jj∘JZ) fun a Z HM=>?_
 exact iy rfl Z (.cellS (i:=0) Z HM rfl rfl eZ rfl) (⟨rfl,HM.below⟩)
theorem IL (b:Bs) (w:World):Calls Tryz.prog 273 #[.agg b.cells] w (Is w (.bool b.right)):=by
 refine (dh Tryz.func273 21) ?_
 refine (JP∘JE) fun w1 g1=>(Jp 1∘Jr∘Jg 0 O0∘Jp 2) (Ji (fun hd6=>?_) fun hd6=>?_)
 ·
  refine (Jg 0 O0∘Jp 3) (Ji (fun jD=>?_) fun jD=>?_)
  ·
   refine (Jg 1 O0∘Jp 3) (Ji (fun lC=>?_) fun lC=>?_)
   ·
    exact (Jg 1 O0∘Jp 3∘aI∘Jj∘JZ∘bB) fun HM=>IG HM.below (by simp;omega)
   exact (Jp 5∘aI∘Jj∘JZ∘bB) fun HM=>IG HM.below (by simp;omega)
  exact (Jv 10 [(2,.bool false)]∘aI∘Jj∘JZ∘bB) fun HM=>IG HM.below (by simp;omega)
 exact (Jv 15 [(2,.bool false)]∘bT∘Jj∘JZ∘bB) fun HM=>IG HM.below (by simp;omega)
theorem TL (b:Bs) (e:Ev) (w:World):Calls Tryz.prog 274 #[.agg b.cells,.agg e.cells] w (Is w (.bool (b.behind e))):=by
 refine (iG Tryz.func274 17) ?_
 refine (JP∘JE) fun w2 g2=>(JE) fun w3 g3=>(Jp 1∘Jr∘Jg 0 O0∘Jg 0 O1∘Jp 2) (Ji (fun iB=>?_) fun iB=>?_)
 ·
  exact (Jg 1 O0∘Jg 1 O1∘Jp 3∘aI∘Jj∘JZ∘bB) fun HM=>TF HM.below (by simp;omega)
 exact (Jp 7∘aI∘Jj∘JZ∘bB) fun HM=>TF HM.below (by simp;omega)
theorem TM (b:Bs) (e:Ev) (he:e.Ok) (B:Nat) (w:World) (hL:Laid B w) (hB:B≤w.heap.size):Calls Tryz.prog 244 #[.agg b.cells,.agg e.cells] w (za w (qs b e) (zz b e)):=by
 refine (iG Tryz.func244 47) ?_
 refine (JP∘JE) fun w2 g2=>(JE) fun w3 g3=>(Jp 2∘Jq) fun a Z HM=>?_
 obtain ⟨er,hck⟩:∃er,e.check=er:=⟨_,rfl⟩
 obtain ⟨vs,hvs⟩:∃vs,e.qx=vs:=⟨_,rfl⟩
 have hvl:vs.length≤4:=by rw [←hvs];exact q08 e
 refine Jb Z HM ((JG∘JP∘Jy (v:= .agg e.cells) (h:=by exact Yl.qg rfl rfl zi rfl (fun _ h=>qb (h.blk (i:=0) rfl)))∘JK (h:=by exact fun HM=>q07 e he B _ (hL.mem HM hB) (HM.le hB) hck hvs)) fun Av cv mF hcv=>(Jp 1∘Jx∘Jx∘Jp 2∘Jj∘JQ∘JP∘Jp 2∘aR∘Jj) (Jh (fun iR=>?_) fun iR=>?_))
 ·
  exact (JT∘JP∘Jp 3∘Jj∘JZ∘bY) fun HM=>Et (q4e hck om) rfl HM.below
 refine (JF∘aF∘JQ∘JP∘Jy (v:= .agg b.cells) (h:=by exact Yl.qg rfl rfl eZ rfl (fun _ h=>qb (h.blk (i:=2) rfl)))∘JI (h:=by exact fun HM=>IL b _)) fun qJ hbw=>(Jp 2) (Ju (fun fG=>?_) fun fG=>?_)
 ·
  exact (Jp 5∘aI∘Jj∘JT∘JP∘Jp 2∘Jj∘JZ∘bY) fun HM=>Et (TG om (by simp_all)) rfl HM.below
 refine (Jy (v:= .agg b.cells) (h:=by exact Yl.qg rfl rfl eZ rfl (fun _ h=>qb (h.blk (i:=2) rfl)))∘Jy (v:= .agg e.cells) (h:=by exact Yl.qg rfl rfl zi rfl (fun _ h=>qb (h.blk (i:=1) rfl)))∘JI (h:=by exact fun HM=>TL b e _)) fun Mx hbw=>(Jp 2∘aI∘Jj) (Ju (fun iI=>?_) fun iI=>?_)
 ·
  exact (JT∘JP∘Jp 2∘Jj∘JZ∘bY) fun HM=>Et (TG om (by simp_all)) rfl HM.below
 intro a Z HM
 have hbb:b.right=true∧b.behind e=true:=by simp_all
 have hpn:=q09 he om hvs hbb.1 hbb.2
 obtain ⟨x0,hx0⟩:∃x,(e.seq-b.seq).toNat=x:=⟨_,rfl⟩
 obtain ⟨x1,hx1⟩:∃x,(e.time-b.time).toNat=x:=⟨_,rfl⟩
 rw [hx0,hx1] at hpn
 obtain ⟨bb,hbe⟩:∃bb,(x0::x1::vs).flatMap ak=bb:=⟨_,rfl⟩
 have hbl:bb.length≤60:=by rw [←hbe];have:=uO (x0::x1::vs);simp only [List.length_cons] at this;omega
 refine Jb Z HM ((JF∘aF∘JP∘Jg 0 O1∘Jg 0 O2∘Jp 1∘Jo (vI (e.seq-b.seq)) (by exact oH ⟨by omega,by omega⟩)∘Jv 1 [(31,vQ (IntKind.u64.wrap (e.seq-b.seq)))]∘Jo (vQ x0) (by exact II hpn.1 hx0)∘Jg 1 O1∘Jg 1 O2∘Jp 1∘Jo (vI (e.time-b.time)) (by exact oH ⟨by omega,by omega⟩)∘Jv 1 [(37,vQ (IntKind.u64.wrap (e.time-b.time)))]∘Jo (vQ x1) (by exact II hpn.2.1 hx1)∘JU qbv #[vQ x0,vQ x1]) fun yX mG=>(Jp 1) fun a Z HM=>?_)
 refine fo Z 14 rfl rfl ?_
 replace HM:=HM.dz (i:=0) (n:=2) (size:=1) rfl rfl de
 refine qV Z HM (i:=0) rfl qbv rfl rfl rfl (news:=(vs.map dB)) (HM.rd (i:=1) rfl) (TI _) om om rfl de ?_
 clear Z HM;intro a TN rD c40 Z HM uZ
 refine Jb Z HM ((Jp 1∘aI∘Jq) fun a Z HM=>?_)
 have jE:(2+vs.length)=(x0::x1::vs).length:=Nat.add_comm 2 _
 replace HM:=HM.aV (i:=0) (ys:=(x0::x1::vs).map dB) rfl jE (rfl)
 rw [jE] at uZ
 replace Z:=Z.sp 8 (.slice rD ((x0::x1::vs).length) c40) rfl (by rw [jE])
 refine qw (fun aS wS=>∃(Cv:Nat) (Ab:Option Addr) (cb:Nat) (nK:Option Addr) (c46:Nat),Fr aS 47 [] [(46,.slice nK ((e.kind::bb).length) c46),(4,.slice nK ((e.kind::bb).length) c46),(5,vI 0),(25,.bool false),(15,.bool false),(7,vI er),(3,vP g3 0),(2,vP g2 0)]∧Mem w wS [.row (.slice Ab bb.length cb) bb.length (bb.map B8) 5 1,.row (.slice nK ((e.kind::bb).length) c46) ((e.kind::bb).length) ((e.kind::bb).map B8) 5 1,.row (.slice rD ((x0::x1::vs).length) c40) ((x0::x1::vs).length) ((x0::x1::vs).map dB) 41 1,.row (.slice Av vs.length cv) vs.length (vs.map dB) 41 1,.blk g3 e.cells 73,.blk g2 b.cells 110]∧(bb.length≤cb)∧((e.kind::bb).length≤c46)) ?_ ?_
 ·
  refine Jb Z HM ((Vs .n []) fun IQ=>(Vf 0 3∘Vp [3]∘Vc 1 O2) fun a Z HM HS=>?_)
  refine pE [2,4] kr rfl ?_
  refine all_cons ?_ ?_
  ·refine jl Z (i:=2) rfl rfl ?_
   refine uU Z HM aB [(0,vB e.kind)] #[vB e.kind] ?_
   clear Z HM;intro a IU Cv Z HM
   refine aK (HM.pk [1,2,3,4]) (fun HS=>?_)
   refine Vb Z HM HS ((VK 4 (.f .n) (h:=by exact fun HM=>TJ (HM.rd (i:=1) rfl) hpn.2.2.1 (by simp only [List.length_cons];omega) hbe)) fun Ab cb Cw hcb=>fun a Z HM HS=>?_)
   refine s_on Z 5 rfl ?_
   replace HM:=HM.dz (i:=1) (n:=1) (size:=1) rfl rfl de
   refine qV Z HM (i:=1) rfl aB rfl rfl rfl (news:=(bb.map B8)) (HM.rd (i:=0) rfl) (zk _) om om rfl de ?_
   clear Z HM;intro a Eu nK c46 Z HM lD
   refine aK (HM.pk [2,3,4,5]) (fun HS=>?_)
   refine Vb Z HM HS ((Vp [6,7]∘Vd) fun a Z HM=>?_)
   have iJ:(1+bb.length)=(e.kind::bb).length:=Nat.add_comm 1 _
   replace HM:=HM.aV (i:=1) (ys:=(e.kind::bb).map B8) rfl iJ (rfl)
   rw [iJ] at lD
   replace Z:=Z.sp 4 (.slice nK ((e.kind::bb).length) c46) rfl (by rw [iJ])
   replace Z:=Z.sp 46 (.slice nK ((e.kind::bb).length) c46) rfl (by rw [iJ])
   exact ⟨Cv,Ab,cb,nK,c46,Z.sub kr,HM.pk [0,1,2,3,4,5],hcb,lD⟩
  refine all_cons ?_ all_nil
  refine jl Z (i:=4) rfl rfl ?_
  refine mo Z HM [.slice rD ((x0::x1::vs).length) c40] (TJ (HM.rd (i:=0) rfl) hpn.2.2.1 (by simp only [List.length_cons];omega) hbe) fun Ab cb Cw hcb HM a Z=>?_
  refine aK (HM.pk [1,2,3,4]) (fun HS=>?_)
  refine s_on Z 2 rfl (uU Z HM aB [(0,vB e.kind)] #[vB e.kind] ?_)
  clear Z HM;intro a IU Cv Z HM
  refine aK (HM.pk [2,3,4,5]) (fun HS=>?_)
  refine s_on Z 5 rfl ?_
  replace HM:=HM.dz (i:=0) (n:=1) (size:=1) rfl rfl de
  refine qV Z HM (i:=0) rfl aB rfl rfl rfl (news:=(bb.map B8)) (HM.rd (i:=1) rfl) (zk _) om om rfl de ?_
  clear Z HM;intro a Eu nK c46 Z HM lD
  refine aK (HM.pk [2,3,4,5]) (fun HS=>?_)
  refine Vb Z HM HS ((Vp [6,7]∘Vd) fun a Z HM=>?_)
  have iJ:(1+bb.length)=(e.kind::bb).length:=Nat.add_comm 1 _
  replace HM:=HM.aV (i:=0) (ys:=(e.kind::bb).map B8) rfl iJ (rfl)
  rw [iJ] at lD
  replace Z:=Z.sp 4 (.slice nK ((e.kind::bb).length) c46) rfl (by rw [iJ])
  replace Z:=Z.sp 46 (.slice nK ((e.kind::bb).length) c46) rfl (by rw [iJ])
  exact ⟨Cv,Ab,cb,nK,c46,Z.sub kr,HM.pk [1,0,2,3,4,5],hcb,lD⟩
 clear Z HM;rintro a w7 ⟨Cv,Ab,cb,nK,c46,Z,HM,hcb,lD⟩
 exact Jb Z HM ((JZ∘bY) fun HM=>TH (L:=e.kind::bb) (q4g hck om hbb hpn hbe) (HM.own (i:=1) rfl) lD HM.below)
theorem q6f (b:Bs) (e:Ev) (he:e.Ok) (B:Nat) (w:World) (hL:Laid B w) (hB:B≤w.heap.size) {er:Nat} {R:List Nat} (h1:qs b e=er) (h2:zz b e=R):Calls Tryz.prog 244 #[.agg b.cells,.agg e.cells] w (za w er R):=by
 subst h1;subst h2
 exact TM b e he B w hL hB
theorem size_at (b:Bs) (e:Ev) (he:e.Ok) (B:Nat) (w:World) (hL:Laid B w) (hB:B≤w.heap.size) {er:Nat} {R:List Nat} (h1:qs b e=er) (h2:zz b e=R):Calls Tryz.prog 173 #[.agg b.cells,.agg e.cells] w (Is w (.tuple #[.int .i64 (R.length:Int),.int .i64 (er:Int)])):=by
 refine (iG Tryz.func173 17) ?_
 exact (JP∘JE) fun w2 g2=>(JE) fun w3 g3=>(Jp 2∘Jr∘Jy (v:= .agg b.cells) (h:=by exact Yl.qg rfl rfl eZ rfl (fun _ h=>qb (h.blk (i:=1) rfl)))∘Jy (v:= .agg e.cells) (h:=by exact Yl.qg rfl rfl zi rfl (fun _ h=>qb (h.blk (i:=0) rfl)))∘JK (h:=by exact fun HM=>q6f b e he B _ (hL.mem HM hB) (HM.le hB) h1 h2)) fun Ar cr mF hcr=>(Jp 1∘Jx∘Jx∘Jp 2∘Jr∘Jp 1∘Jl∘Jp 3∘Jj∘JZ) SK
theorem q4i (b:Bs) (e:Ev) (he:e.Ok) (B:Nat) (w:World) (hL:Laid B w) (hB:B≤w.heap.size) {L er:Nat} (h1:(zz b e).length=L) (h2:qs b e=er):Calls Tryz.prog 173 #[.agg b.cells,.agg e.cells] w (Is w (.tuple #[.int .i64 (L:Int),.int .i64 (er:Int)])):=by
 subst h1
 exact size_at b e he B w hL hB h2 rfl
theorem q1c (A:Option Addr) (c:Nat) (l:List Ev) (hok:∀e∈l,e.Ok) (B:Nat) (w:World) (hL:Laid B w) (hB:B≤w.heap.size) (hr:Rd w w.heap.size 11 A l.length (l.flatMap aN)) (hn:l.length≤140737488355328):Calls Tryz.prog 171 #[.slice A l.length c] w (Is w (.tuple #[.int .i64 (bL l).1,.int .i64 ((bL l).2:Int)])):=by
 refine (dh Tryz.func171 57) ?_
 refine (JP∘Jp 2∘Jj∘JQ∘JP∘Jp 1∘Jl∘Jp 1∘Jj∘JB) fun a Z HM=>?_
 refine qc (fun mS aS wS=>∃(k:Nat),(k≤l.length)∧(bL l=bW (iA l k) k (l.drop k))∧mS=l.length-k∧Fr aS 57 [] [(9,vI k),(8,vI l.length),(7,.slice A l.length c),(3,vI 0),(2,vI 0),(0,.slice A l.length c)]∧Mem w wS []) (m:=l.length-0) ⟨0,Nat.zero_le _,rfl,rfl,Z.sub kr,HM.pk []⟩ ?_
 clear Z HM;rintro mS a w_ ⟨k,hk,hgo,rfl,Z,HM⟩
 refine Jb Z HM ((JP∘Jp 1∘Jj∘JQ) (Ju (fun jF=>?_) fun jF=>?_))
 ·
  intro a Z HM
  have iB:=of_decide_eq_true jF
  have hk1:k<l.length:=by omega
  obtain ⟨e,hxe⟩:∃e,l.getD k Ev.zero=e:=⟨_,rfl⟩
  obtain ⟨q,qK⟩:∃q,l.getD (k-1) Ev.zero=q:=⟨_,rfl⟩
  have MB:e.Ok:=hok e (by rw [←hxe];exact q7 Ev.zero hk1)
  have hst:=row_step (p:=iA l k) hk1 hxe
  refine Jb Z HM ((JT∘aF∘JQ∘JB∘JP∘Jp 1) ?_)
  repeat (first|clear Z|clear HM)
  intro a Z HM
  obtain ⟨gA,oA,rfl,_⟩:=hr.qm (Nat.lt_of_le_of_lt (Nat.zero_le _) (show k<l.length from by omega)) de
  refine Jb Z HM ((Jy (h:=by exact Yl.ix gA oA k 11 rfl rfl rfl)∘Jy (v:= .agg ((l.getD k Ev.zero).cells)) (h:=by exact Yl.qg rfl rfl zi rfl (fun _ h=>(h.old hr).q8 qv ((getD_at Ev.zero hk1))))∘Jo (.agg e.cells) (by rw [hxe])∘JA #[vI 0,vI 0,vB 0,vB 0,vI 0,vI 0,vI 0,vI 0,vI 0,vQ 0,vI 0]) fun w5 g5=>(Jp 1∘JV zi aZ (h1:=by exact zf e)) fun acg=>(Jj∘JQ∘JP∘Jy (v:= .agg e.cells) (h:=by exact Yl.qg rfl rfl zi rfl (fun _ h=>qb (h.blk (i:=0) rfl)))∘JI (h:=by exact fun HM=>qwv e MB B _ (hL.mem HM hB) (HM.le hB))) fun oM hbw=>(Jp 1∘aY∘Jr∘Jp 2∘aR∘Jj) (Jh (fun fK=>?_) fun fK=>?_))
  ·
   exact (JT∘JP∘Jp 4∘Jj∘JZ∘bY) fun HM=>Mv (hgo.trans (hst.trans (if_pos om))) rfl HM.below
  refine (JF∘aF) fun a Z HM=>?_
  refine qw (fun aS wS=>Fr aS 57 [] [(54,.bool (!(iA l k).all fun q=>e.after q)),(17,.bool false),(6,vI e.check),(4,vI k),(5,vP g5 0),(10,.bool true),(9,vI k),(8,vI l.length),(7,.slice (some ⟨gA,oA,none⟩) l.length c),(3,vI 0),(2,vI 0),(0,.slice (some ⟨gA,oA,none⟩) l.length c)]∧Mem w wS [.blk g5 e.cells 73]) ?_ ?_
  ·
   refine Jb Z HM ((Vs .n []) fun IQ=>(Vp [0,1,2]) fun a Z HM HS=>?_)
   rcases Z.tf 22 rfl with ⟨fM,Z⟩|⟨fM,Z⟩
   ·
    have lF:=of_decide_eq_true fM
    refine Vb Z HM HS ((Vf 3 2∘Vp [5,6]∘Vc 4 O0∘Vp [7]∘Vo (vI (k-1:Nat)) (by exact IK om om)∘Vy 8 (h:=by exact Yl.ix gA oA (k-1) 11 rfl rfl rfl)∘Vf 9 2∘Vy 10 (v:=vB ((l.getD (k-1) Ev.zero).cpu)) (h:=by exact Yl.qn rfl rfl kr (fun _ h=>(h.old hr).partAt qv (k:=(k-1)) (j:=2) (x:=(l.getD (k-1) Ev.zero)) ((getD_at Ev.zero (k:=k-1) om)) rfl))∘Vo (vB q.cpu) (by rw [qK])∘Vp [11,12]) fun a Z HM HS=>?_)
    rcases Z.tf 32 rfl with ⟨nL,Z⟩|⟨nL,Z⟩
    ·
     have hd32:=bne_iff_ne.1 nL
     refine Vb Z HM HS ((Vq [13,14,15,16,17,18,19,20,21,22,23,24,25,26,27,28,29,30,31,32,33] [(53,.bool true)]∘Vq [34] [(54,.bool true)]∘Vo (.bool (!(iA l k).all fun q=>e.after q)) (by exact IJ qK (by first|exact iff_of_true rfl om|exact iff_of_false de om|exact decide_eq_true_iff.trans om))∘Vd∘aI) fun a Z HM=>?_)
     exact ⟨Z.sub kr,HM.pk [0]⟩
    have hd32:=bne_eq_false_iff_eq.1 nL
    refine ap Z (fun _=>HS) [13,15,16] (bf 35 [0,1,2,3,4,5,6,7,8,9,10,11,12,13,15,16]) [(36,vI k),(35,.slice (some ⟨gA,oA,none⟩) l.length c),(33,vP g5 0)] fun a Z=>?_
    refine jA Z HS 14 0 (v:=vI e.seq) fun a Z=>?_
    refine ze Z (fun _=>HS) (i:=17) rfl rfl (d:=37) rfl de kr (fun _ _ _ h=>h) (v:=vI (IntKind.i64.wrap ((k:Int)-1))) (fun _=>Yl.pure kr) fun a Z=>?_
    replace Z:=Z.sp 37 (vI (k-1:Nat)) rfl (IK om om)
    refine cB Z HS 18 rfl (v:=vP gA (oA+(k-1)*11)) (Yl.ix gA oA (k-1) 11 rfl rfl rfl) fun a Z=>?_
    refine ap Z (fun _=>HS) [19] (bt 35 [20,21,22,23,24,25,26,27,28,29,30,31,32,33,34]) [(39,vP gA (oA+(k-1)*11))] fun a Z=>?_
    refine cB Z HS 20 rfl (v:=vI ((l.getD (k-1) Ev.zero).seq)) (Yl.qn rfl rfl kr (fun _ h=>(by have:=(h.old hr).partAt qv (k:=(k-1)) (j:=0) (x:=(l.getD (k-1) Ev.zero)) ((getD_at Ev.zero (k:=k-1) om)) rfl;simpa using this))) fun a Z=>?_
    replace Z:=Z.sp 40 (vI q.seq) rfl (by rw [qK])
    refine ap Z (fun _=>HS) [21,22,23] (bt 35 [24,25,26,27,28,29,30,31,32,33,34]) [(43,.bool (decide ((e.seq:Int)≤(q.seq:Int))))] fun a Z=>?_
    refine Jb Z HM (Ju (fun eB=>?_) fun eB=>?_)
    ·
     intro a Z HM
     have lG:=of_decide_eq_true eB
     refine ap Z (fun _=>HS) [24,25,26,27,28,29,30,31,32,33] (bt 35 [34]) [(53,.bool true)] fun a Z=>?_
     refine ze Z (fun _=>HS) (i:=34) rfl rfl (d:=54) rfl de kr (fun _ _ _ h=>h) (v:= .bool true) (fun _=>Yl.pure kr) fun a Z=>?_
     replace Z:=Z.sp 54 (.bool (!(iA l k).all fun q=>e.after q)) rfl (IJ qK (by first|exact iff_of_true rfl om|exact iff_of_false de om|exact decide_eq_true_iff.trans om))
     refine qd kr ?_
     exact ⟨Z.sub kr,HM.pk [0]⟩
    intro a Z HM
    have lG:=of_decide_eq_false eB
    refine ap Z (fun _=>HS) [24,26,27] (bt 35 [25,28,29,30,31,32,33,34]) [(47,vI k),(46,.slice (some ⟨gA,oA,none⟩) l.length c),(44,vP g5 1)] fun a Z=>?_
    refine jA Z HS 25 0 (v:=vI e.time) fun a Z=>?_
    refine ze Z (fun _=>HS) (i:=28) rfl rfl (d:=48) rfl de kr (fun _ _ _ h=>h) (v:=vI (IntKind.i64.wrap ((k:Int)-1))) (fun _=>Yl.pure kr) fun a Z=>?_
    replace Z:=Z.sp 48 (vI (k-1:Nat)) rfl (IK om om)
    refine cB Z HS 29 rfl (v:=vP gA (oA+(k-1)*11)) (Yl.ix gA oA (k-1) 11 rfl rfl rfl) fun a Z=>?_
    refine ap Z (fun _=>HS) [30] (bt 35 [31,32,33,34]) [(50,vP gA (oA+(k-1)*11+1))] fun a Z=>?_
    refine cB Z HS 31 rfl (v:=vI ((l.getD (k-1) Ev.zero).time)) (Yl.qn rfl rfl kr (fun _ h=>(h.old hr).partAt qv (k:=(k-1)) (j:=1) (x:=(l.getD (k-1) Ev.zero)) ((getD_at Ev.zero (k:=k-1) om)) rfl)) fun a Z=>?_
    replace Z:=Z.sp 51 (vI q.time) rfl (by rw [qK])
    refine ap Z (fun _=>HS) [32,33] (bt 35 [34]) [(53,.bool (decide ((e.time:Int)<(q.time:Int))))] fun a Z=>?_
    refine ze Z (fun _=>HS) (i:=34) rfl rfl (d:=54) rfl de kr (fun _ _ _ h=>h) (v:= .bool (decide ((e.time:Int)<(q.time:Int)))) (fun _=>Yl.pure kr) fun a Z=>?_
    replace Z:=Z.sp 54 (.bool (!(iA l k).all fun q=>e.after q)) rfl (IJ qK (by first|exact iff_of_true rfl om|exact iff_of_false de om|exact decide_eq_true_iff.trans om))
    refine qd kr ?_
    replace Z:=Z.to [(54,.bool (!(iA l k).all fun q=>e.after q)),(17,.bool false),(6,vI e.check),(4,vI k),(5,vP g5 0),(10,.bool true),(9,vI k),(8,vI l.length),(7,.slice (some ⟨gA,oA,none⟩) l.length c),(3,vI 0),(2,vI 0),(0,.slice (some ⟨gA,oA,none⟩) l.length c)]
    exact ⟨Z.sub kr,HM.pk [0]⟩
   have lF:=of_decide_eq_false fM
   refine ap Z (fun _=>HS) [3,4,5,6,7,8,9,10,11,12,13,14,15,16,17,18,19,20,21,22,23,24,25,26,27,28,29,30,31,32,33] (bt 35 [34]) [(53,undef)] fun a Z=>?_
   refine ze Z (fun _=>HS) (i:=34) rfl rfl (d:=54) rfl de kr (fun _ _ _ h=>h) (v:= .bool false) (fun _=>Yl.pure kr) fun a Z=>?_
   replace Z:=Z.sp 54 (.bool (!(iA l k).all fun q=>e.after q)) rfl (IJ qK (by first|exact iff_of_true rfl om|exact iff_of_false de om|exact decide_eq_true_iff.trans om))
   refine qd kr ?_
   exact ⟨Z.sub kr,HM.pk [0]⟩
  clear Z HM;rintro a w7 ⟨Z,HM⟩
  refine Jb Z HM (Ju (fun MC=>?_) fun MC=>?_)
  ·
   exact (JT∘JP∘Jp 3∘Jj∘JZ∘bY) fun HM=>Mv (m:=71) (hgo.trans (hst.trans ((if_neg om).trans (if_pos (by simp_all))))) rfl HM.below
  refine (JF∘aF∘JR∘cK 1∘Jp 1∘aR∘Jq) fun a Z HM=>?_
  exact ⟨_,om,k+1,by omega,(hgo.trans (hst.trans ((if_neg om).trans ((if_neg (by simp_all)).trans (by rw [q1a hxe]))))),rfl,Z.sub kr,HM.pk []⟩
 intro a Z HM
 have iB:=of_decide_eq_false jF
 exact Jb Z HM ((JF∘JX∘JG∘JP∘Jp 2∘Jj∘JZ∘bY) fun HM=>Mv (m:=0) (hgo.trans (q4h om)) rfl HM.below)
theorem qwy (b:Bs) (e:Ev) (he:e.Ok) {rb:List Nat} (h:qs b e=0) (hb:qq b e=rb) (B:Nat) (w:World) (hL:Laid B w) (hB:B≤w.heap.size):Calls Tryz.prog 244 #[.agg b.cells,.agg e.cells] w (za w 0 rb):=by
 have k:=TM b e he B w hL hB
 have ho:zz b e=rb:=by unfold zz;rw [if_pos h,hb]
 rwa [h,ho] at k
theorem TP (A:Option Addr) (c:Nat) (l:List Ev) (hok:∀e∈l,e.Ok) (B:Nat) (w:World) (hL:Laid B w) (hB:B≤w.heap.size) (hr:Rd w w.heap.size 11 A l.length (l.flatMap aN)) (hn:l.length≤140737488355328) {ri:Int} {re:Nat} (h:bL l=(ri,re)):Calls Tryz.prog 171 #[.slice A l.length c] w (Is w (.tuple #[.int .i64 ri,.int .i64 (re:Int)])):=by
 have k:=q1c A c l hok B w hL hB hr hn
 rwa [h] at k
theorem qqs (b:Bs) (A:Option Addr) (c:Nat) (l:List Ev) (hok:∀e∈l,e.Ok) (B:Nat) (w:World) (hL:Laid B w) (hB:B≤w.heap.size) (hr:Rd w w.heap.size 11 A l.length (l.flatMap aN)) (hn:l.length≤1000000000000):Calls Tryz.prog 228 #[.agg b.cells,.slice A l.length c] w (za w (qr b l) (zd b l)):=by
 refine (iG Tryz.func228 56) ?_
 refine (JP∘JE) fun w2 g2=>(Jp 2∘Jq) fun a Z HM=>?_
 obtain ⟨ri,re,hro⟩:∃ri re,bL l=(ri,re):=⟨_,_,rfl⟩
 refine Jb Z HM ((JG∘JQ∘JP∘Jp 1∘JI (h:=by exact fun HM=>TP A c l hok B _ (hL.mem HM hB) (HM.le hB) (HM.old hr) om hro)) fun oM hbw=>(Jp 1∘Jx∘Jx∘Jp 2∘aI∘Jr∘Jp 2∘aR∘Jj) (Ju (fun fO=>?_) fun fO=>?_))
 ·
  intro a Z HM
  have lH:=bne_iff_ne.1 fO
  exact Jb Z HM ((JT∘JP∘Jp 3∘Jj∘JZ∘bY) fun HM=>Et (qts hro om) rfl HM.below)
 intro a Z HM
 have lH:=bne_eq_false_iff_eq.1 fO
 obtain ⟨e0,he0⟩:∃e,l.getD 0 Ev.zero=e:=⟨_,rfl⟩
 refine Jb Z HM ((JF∘aF∘JQ) fun a Z HM=>?_)
 refine qw (fun aS wS=>Fr aS 56 [] [(36,.bool (!(b.right&&l.head?.all b.behind))),(19,.bool false),(7,vI re),(5,vI 0),(4,.slice none 0 0),(2,vP g2 0),(1,.slice A l.length c)]∧Mem w wS [.blk g2 b.cells 110]) ?_ ?_
 ·
  refine Jb Z HM ((Vs .n []) fun wd4=>(Vy 0 (v:= .agg b.cells) (h:=by exact Yl.qg rfl rfl eZ rfl (fun _ h=>qb (h.blk (i:=0) rfl)))∘VI 1 .n (h:=by exact fun HM=>IL b _)) fun Ew hbw=>(Vp [2,3]) fun a Z HM HS=>?_)
  rcases Z.tf 24 rfl with ⟨dZ,Z⟩|⟨dZ,Z⟩
  ·
   refine Vb Z HM HS ((Vq [4,5,6,7,8,9,10,11,12,13,14] [(35,undef)]∘Vq [15] [(36,.bool true)]∘Vo (.bool (!(b.right&&l.head?.all b.behind))) (by exact yV (by rw [he0];first|exact iff_of_true rfl (by simp_all)|exact iff_of_false de (by simp_all;omega)|simp_all))∘Vd∘aI) fun a Z HM=>?_)
   exact ⟨Z.sub kr,HM.pk [0]⟩
  refine ap Z (fun _=>HS) [4] (bf 16 [0,1,2,3,4]) [(25,.slice A l.length c)] fun a Z=>?_
  refine ru Z HS 5 fun a Z=>?_
  refine ap Z (fun _=>HS) [6,7] (bf 16 [0,1,2,3,4,5,6,7]) [(28,.bool (decide ((l.length:Int)>(0:Int))))] fun a Z=>?_
  refine Jb Z HM (Ji (fun hd28=>?_) fun hd28=>?_)
  ·
   intro a Z HM
   refine ap Z (fun _=>HS) [9] (bt 16 [8,10,11,12,13,14,15]) [(30,.slice A l.length c)] fun a Z=>?_
   refine cB Z HS 8 rfl (v:= .agg b.cells) (Yl.qg rfl rfl eZ rfl (fun _ h=>qb (h.blk (i:=0) rfl))) fun a Z=>?_
   revert HM;revert a;repeat (first|clear Z|clear HM)
   intro a Z HM
   obtain ⟨gA,oA,rfl,_⟩:=hr.qm (Nat.lt_of_le_of_lt (Nat.zero_le _) (show 0<l.length from by omega)) de
   refine cB Z HS 10 rfl (v:=vP gA oA) (Yl.indexAddr (ad:=⟨gA,oA,none⟩) (y:=0) (sz:=11) rfl rfl rfl om kr) fun a Z=>?_
   refine cB Z HS 11 rfl (v:= .agg ((l.getD 0 Ev.zero).cells)) (Yl.qg rfl rfl zi rfl (fun _ h=>(h.old hr).q8 qv ((getD_at Ev.zero (k:=0) om)))) fun a Z=>?_
   replace Z:=Z.sp 32 (.agg e0.cells) rfl (by rw [he0])
   refine s_on Z 12 rfl (D6 Z HM [.agg b.cells,.agg e0.cells] (.bool (b.behind e0)) rfl rfl (TL b e0 _) fun Ey hbw HM a Z=>?_)
   refine aK (HM.pk [0]) (fun HS=>?_)
   refine ap Z (fun _=>HS) [13,14] (bt 16 [15]) [(35,.bool (!(b.behind e0)))] fun a Z=>?_
   refine ze Z (fun _=>HS) (i:=15) rfl rfl (d:=36) rfl de kr (fun _ _ _ h=>h) (v:= .bool (!(b.behind e0))) (fun _=>Yl.pure kr) fun a Z=>?_
   replace Z:=Z.sp 36 (.bool (!(b.right&&l.head?.all b.behind))) rfl (yV (by rw [he0];first|exact iff_of_true rfl (by simp_all)|exact iff_of_false de (by simp_all;omega)|simp_all))
   refine qd kr ?_
   exact ⟨Z.sub kr,HM.pk [0]⟩
  intro a Z HM
  refine ap Z (fun _=>HS) [8,9,10,11,12,13,14] (bt 16 [15]) [(35,.bool false)] fun a Z=>?_
  refine ze Z (fun _=>HS) (i:=15) rfl rfl (d:=36) rfl de kr (fun _ _ _ h=>h) (v:= .bool false) (fun _=>Yl.pure kr) fun a Z=>?_
  replace Z:=Z.sp 36 (.bool (!(b.right&&l.head?.all b.behind))) rfl (yV (by rw [he0];first|exact iff_of_true rfl (by simp_all)|exact iff_of_false de (by simp_all;omega)|simp_all))
  refine qd kr ?_
  exact ⟨Z.sub kr,HM.pk [0]⟩
 clear Z HM;rintro a w4 ⟨Z,HM⟩
 refine Jb Z HM (Ju (fun gD=>?_) fun gD=>?_)
 ·
  exact (JT∘JP∘Jp 2∘Jj∘JZ∘bY) fun HM=>Et (qqr hro om (fun h=>by rw [h] at gD;exact absurd gD de)) rfl HM.below
 intro a Z HM
 have hbb:(b.right&&l.head?.all b.behind)=true:=by simpa using gD
 refine Jb Z HM ((JF∘aF∘JP∘Jp 1∘Jq) fun a Z HM=>?_)
 replace HM:=HM.nil 5 1
 refine Jb Z HM ((JG∘JQ∘JP∘Jp 1∘Jl∘Jp 1∘Jj∘JB) fun a Z HM=>?_)
 refine qc (fun mS aS wS=>∃(k:Nat) (pre:List Nat) (bk:Bs) (Ao:Option Addr) (co:Nat),(k≤l.length)∧(pre.length≤61*k)∧(bk=yU b l k)∧(recs b l=pre++recs bk (l.drop k))∧(pre.length≤co)∧mS=l.length-k∧Fr aS 56 [] [(39,vI k),(38,vI l.length),(37,.slice A l.length c),(8,.slice Ao pre.length co),(36,.bool false),(19,.bool false),(7,vI re),(5,vI 0),(4,.slice none 0 0),(2,vP g2 0),(1,.slice A l.length c)]∧Mem w wS [.row (.slice Ao pre.length co) pre.length (pre.map B8) 5 1,.blk g2 bk.cells 110]) (m:=l.length-0) ⟨0,[],b,none,0,Nat.zero_le _,Nat.zero_le _,rfl,rfl,Nat.zero_le _,rfl,Z.sub kr,HM.pk [0,1]⟩ ?_
 clear Z HM;rintro mS a w_ ⟨k,pre,bk,Ao,co,hk,hpl,hbk,hrc,hco,rfl,Z,HM⟩
 refine Jb Z HM ((JP∘Jp 1∘Jj∘JQ) (Ju (fun dD=>?_) fun dD=>?_))
 ·
  intro a Z HM
  have jG:=of_decide_eq_true dD
  have hk1:k<l.length:=by omega
  obtain ⟨e,hxe⟩:∃e,l.getD k Ev.zero=e:=⟨_,rfl⟩
  have MB:e.Ok:=hok e (by rw [←hxe];exact q7 Ev.zero hk1)
  have hpw:=qwx hro om hbb hk1 hbk hxe
  obtain ⟨rb,hrb⟩:∃rb,qq bk e=rb:=⟨_,rfl⟩
  rw [hrb] at hpw
  refine Jb Z HM ((JT∘aF∘JQ∘JB∘JP) ?_)
  repeat (first|clear Z|clear HM)
  intro a Z HM
  obtain ⟨gA,oA,rfl,_⟩:=hr.qm (Nat.lt_of_le_of_lt (Nat.zero_le _) (show k<l.length from by omega)) de
  refine Jb Z HM ((Jy (h:=by exact Yl.ix gA oA k 11 rfl rfl rfl)∘Jy (v:= .agg ((l.getD k Ev.zero).cells)) (h:=by exact Yl.qg rfl rfl zi rfl (fun _ h=>(h.old hr).q8 qv ((getD_at Ev.zero hk1))))∘Jo (.agg e.cells) (by rw [hxe])∘JA #[vI 0,vI 0,vB 0,vB 0,vI 0,vI 0,vI 0,vI 0,vI 0,vQ 0,vI 0]) fun rE g10=>(JV zi aZ (h1:=by exact zf e)) fun ME=>(aY∘Jr∘Jy (v:= .agg bk.cells) (h:=by exact Yl.qg rfl rfl eZ rfl (fun _ h=>qb (h.blk (i:=2) rfl)))∘Jy (v:= .agg e.cells) (h:=by exact Yl.qg rfl rfl zi rfl (fun _ h=>qb (h.blk (i:=0) rfl)))∘JK (h:=by exact fun HM=>qwy bk e MB hpw.1 hrb B _ (hL.mem HM hB) (HM.le hB))) fun Ar cr Eu hcr=>(Jp 1∘Jx∘Jx∘Jp 2∘kg∘Jj∘Vs (.t (.t (.f .n))) [6]) fun yY=>(Vp [0,1]∘Vy 3 (v:= .agg e.cells) (h:=by exact Yl.qg rfl rfl zi rfl (fun _ h=>qb (h.blk (i:=1) rfl)))) fun a Z HM HS=>?_)
  refine s_on Z 2 rfl (qV Z HM (i:=2) rfl aB rfl rfl rfl (news:=(rb.map B8)) (HM.rd (i:=0) rfl) (zk _) om om rfl de ?_)
  clear Z HM;intro a IV jH c51 Z HM jI
  refine aK (HM.pk [0,1,3]) (fun HS=>?_)
  refine Vb Z HM HS ((VI 4 (.t (.t (.f .n))) (h:=by exact fun HM=>TK e _)) fun MF hbw=>(Vp [5]) fun a Z HM HS=>?_)
  refine s_on Z 6 rfl (bN Z HM 3 rfl rfl rfl rfl rfl eZ rfl rfl (Ct e.at) fun wY HM=>?_)
  refine fZ kr ?_
  refine qd kr ?_
  have fV:(pre.length+rb.length)=(pre++rb).length:=by rw [List.length_append]
  replace HM:=HM.aV (i:=2) (ys:=(pre++rb).map B8) rfl fV (by rw [List.map_append])
  rw [fV] at jI
  replace Z:=Z.sp 8 (.slice jH ((pre++rb).length) c51) rfl (by rw [fV])
  replace Z:=Z.sp 51 (.slice jH ((pre++rb).length) c51) rfl (by rw [fV])
  refine Jb Z HM ((JG∘JR∘cK 1∘Jp 1∘aR∘Jq) fun a Z HM=>?_)
  exact ⟨_,om,k+1,(pre++rb),e.at,jH,c51,by omega,by rw [List.length_append];omega,hpw.2.2.1,(hrc.trans (by rw [hpw.2.1,List.append_assoc])),jI,rfl,Z.sub kr,HM.pk [2,3]⟩
 intro a Z HM
 have jG:=of_decide_eq_false dD
 exact Jb Z HM ((JF∘JX∘JG∘JP∘Jp 3∘Jj∘JZ∘bY) fun HM=>TH (L:=pre) (qtt hro om hbb hrc om) (HM.own (i:=0) rfl) hco HM.below)
theorem q1d (b:Bs) (A:Option Addr) (n c:Nat) (l:List Ev) (hok:∀e∈l,e.Ok) (B:Nat) (w:World) (hL:Laid B w) (hB:B≤w.heap.size) (hr:Rd w w.heap.size 11 A n (l.flatMap aN)) (hn:n≤1000000000000) {er:Nat} {R:List Nat} (h1:qr b l=er) (h2:zd b l=R):
  Calls Tryz.prog 228 #[.agg b.cells,.slice A n c] w (za w er R):=by
 obtain rfl:l.length=n:=TD hr
 subst h1;subst h2
 exact qqs b A c l hok B w hL hB hr hn
theorem TQ (A:Option Addr) (n c:Nat) (l:List Ev) (hok:∀e∈l,e.Ok) (B:Nat) (w:World) (hL:Laid B w) (hB:B≤w.heap.size) (hr:Rd w w.heap.size 11 A n (l.flatMap aN)) (hn:n≤140737488355328) {i:Int} {er:Nat} (h:bL l=(i,er)):
  Calls Tryz.prog 171 #[.slice A n c] w (Is w (.tuple #[.int .i64 i,.int .i64 (er:Int)])):=by
 obtain rfl:l.length=n:=TD hr
 exact TP A c l hok B w hL hB hr hn h
theorem qw0 (A:Option Addr) (n c:Nat) (l:List Nat) (w:World) (hr:Rd w w.heap.size 1 A n (l.map B8)) (hl:∀b∈l,b<256) (hn:n≤100000000000000) {x m e:Nat} (h:av l=(x,m,e)):Calls Tryz.prog 52 #[.slice A n c] w (Is w (.tuple #[.int .u64 (x:Int),.int .i64 (m:Int),.int .i64 (e:Int)])):=by
 have k:=RH A n c l w hr hl om
 rw [h] at k
 exact k.mono fun _ _ ⟨h,h2⟩=>⟨h,by first|exact h2|(subst h2;exact Below.refl _ _)⟩
def iK (xs:List Nat) (q:Nat) (r:List Nat×Nat×Nat):List Nat×Nat×Nat:=if r.2.2≠0 then ([],0,r.2.2) else (xs++r.1,q+r.2.1,0)
section
variable {xs l:List Nat} {q k x m e:Nat}
theorem qw1:∀{k:Nat} {l:List Nat},(aH k l).2.2≠0→aH k l=([],0,(aH k l).2.2)
 |0,_,h=>absurd rfl h
 | k + 1, l, h => by
  rw [aH]
  split
  ·rfl
  ·split
   ·rfl
   ·rename_i h1 h2
    rw [aH,if_neg h1,if_neg h2] at h
    exact absurd rfl h
theorem q6g:aH k l=iK [] 0 (aH k l):=by
 unfold iK
 split
 ·rename_i h;exact qw1 h
 ·rename_i h
  rw [Nat.zero_add]
  show _=((aH k l).1,(aH k l).2.1,0)
  rw [←Classical.not_not.1 h]
theorem q1e (h:av l=(x,m,e)) (h0:e≠0):iK xs q (aH (k+1) l)=([],0,e):=by
 rw [aH,h,if_pos h0]
 unfold iK
 exact if_pos h0
theorem qw2 (h:av l=(x,m,e)) (h0:e=0):iK xs q (aH (k+1) l)=iK (xs++[x]) (q+m) (aH k (l.drop m)):=by
 rw [aH,h,if_neg (fun n=>n h0)]
 unfold iK
 dsimp only
 split
 ·rfl
 ·refine (if_neg (fun n=>n rfl)).trans ?_
  rw [List.append_assoc,Nat.add_assoc]
  rfl
theorem q1f:iK xs q (aH 0 l)=(xs,q,0):=by
 show (xs++[],q+0,0)=_
 rw [List.append_nil]
 rfl
end
theorem yZ {w w':World} {R:Ev×Nat×Nat} {ev:Ev} {n m:Nat} {v u:Int} (h:R=(ev,n,m)) (hv:v=(n:Int)) (hu:u=(m:Int)) (hb:Below w.heap.size w w') {cs:Array Value} (hc:cs=ev.cells):Is w (.tuple #[.agg R.1.cells,.int .i64 (R.2.1:Int),.int .i64 (R.2.2:Int)]) (.returned (.tuple #[.agg cs,.int .i64 v,.int .i64 u])) w':=by
 subst h hv hu hc
 exact ⟨rfl,hb⟩
section
variable {b:Bs} {cpu kd:Nat} {l xs:List Nat} {q e:Nat}
theorem q4j (h:b.right=false):aG b cpu l=(Ev.zero,0,70):=by unfold aG;exact if_pos h
theorem q4k (h:b.right=true) (h1:l.length=0):aG b cpu l=(Ev.zero,0,10):=by unfold aG;rw [if_neg (by rw [h];decide),if_pos (List.eq_nil_of_length_eq_zero h1)]
theorem q4l (h:b.right=true) (h1:l.length≠0) (hk:l.getD 0 0=kd) (h2:(aj kd).length=0):aG b cpu l=(Ev.zero,0,60):=by unfold aG;rw [if_neg (by rw [h];decide),if_neg (fun e=>h1 (by rw [e];rfl)),hk,if_pos h2]
theorem IW (h:b.right=true) (h1:l.length≠0) (hk:l.getD 0 0=kd) (h2:(aj kd).length≠0):aG b cpu l=j5 b cpu kd (aH (2+(aj kd).length) (l.drop 1)):=by unfold aG;rw [if_neg (by rw [h];decide),if_neg (fun e=>h1 (by rw [e];rfl)),hk,if_neg h2]
theorem qw3 (h:e≠0):j5 b cpu kd ([],0,e)=(Ev.zero,0,e):=by unfold j5;exact if_pos h
theorem qqt {x0 x1:Nat} (h0:xs.getD 0 0=x0) (h1:xs.getD 1 0=x1) (h:281474976710656-b.seq<(x0:Int)∨281474976710656-b.time<(x1:Int)):j5 b cpu kd (xs,q,0)=(Ev.zero,0,61):=by
 unfold j5;rw [if_neg (fun n=>n rfl),h0,h1];exact if_pos h
theorem qtu {x0 x1:Nat} {E:Ev} {er:Nat} (h0:xs.getD 0 0=x0) (h1:xs.getD 1 0=x1) (h:¬(281474976710656-b.seq<(x0:Int)∨281474976710656-b.time<(x1:Int))) (hE:b.ev cpu kd x0 x1=E) (he:E.aD (xs.drop 2)=er) (h2:er≠0):j5 b cpu kd (xs,q,0)=(Ev.zero,0,61):=by
 unfold j5;rw [if_neg (fun n=>n rfl),h0,h1,if_neg h,hE,he];exact if_pos h2
theorem qtv {x0 x1:Nat} {E:Ev} {er:Nat} (h0:xs.getD 0 0=x0) (h1:xs.getD 1 0=x1) (h:¬(281474976710656-b.seq<(x0:Int)∨281474976710656-b.time<(x1:Int))) (hE:b.ev cpu kd x0 x1=E) (he:E.aD (xs.drop 2)=er) (h2:er=0):j5 b cpu kd (xs,q,0)=(E.aP (xs.drop 2),1+q,0):=by
 unfold j5;rw [if_neg (fun n=>n rfl),h0,h1,if_neg h,hE,he,if_neg om]
 unfold Ev.aP
 rw [if_pos om]
end
theorem oN {v u:Bool} (h:v=true↔u=true):Value.bool v= .bool u:=by rw [Bool.eq_iff_iff.2 h]
theorem q4m {b:Bs} {cpu kd x0 x1:Nat} (hb:1≤b.seq∧b.seq≤281474976710656∧0≤b.time∧b.time≤281474976710656) (h1:cpu<256) (h2:kd<256) (h3:(x0:Int)≤281474976710656) (h4:(x1:Int)≤281474976710656):(b.ev cpu kd x0 x1).Ok:=
 ⟨show aM (b.seq+x0) by unfold aM;omega,show aM (b.time+x1) by unfold aM;omega,h1,h2,qz,qz,qz,qz,qz,by show 0<18446744073709551616;decide,qz⟩
theorem TR (E:Ev) (hE:E.Ok) (A:Option Addr) (n c:Nat) (vs:List Nat) (B:Nat) (w:World) (hL:Laid B w) (hB:B≤w.heap.size) (hr:Rd w w.heap.size 1 A n (vs.map dB)) (hvs:∀x∈vs,x<18446744073709551616) {er:Nat} (h:E.aD vs=er):Calls Tryz.prog 319 #[.agg E.cells,.slice A n c] w (Is w (.tuple #[.agg (E.aP vs).cells,.int .i64 (er:Int)])):=by
 subst h
 exact (q0k E hE A n c vs B w hL hB hr hvs).mono fun _ _ h=>⟨h.ret,h.below⟩
theorem Rd.TS {w:World} {B n k cap:Nat} {A:Option Addr} {l:List Nat} (h:Rd w B 1 A n (l.map dB)) (hk:k≤n) (hc:n≤cap):Rd w B 1 (if cap=k then A else A.map (·.add (k*1))) (n-k) ((l.drop k).map dB):=by
 have h1:=h.from hk hc
 rw [List.map_drop]
 have e:(l.map dB).drop (k*1)=(l.map dB).drop k:=by rw [Nat.mul_one]
 rw [←e]
 exact h1
theorem qtw (kd:Nat) (hkd:kd<256) (B:Nat) (w:World) (hL:Laid B w) (hB:B≤w.heap.size):Calls Tryz.prog 317 #[.int .u8 (kd:Int)] w fun r w'=>∃A c,r= .returned (.slice A (aj kd).length c)∧Below w.heap.size w w':=
 (qtl kd hkd B w hL hB).mono fun _ _ ⟨v, xs, h, ho, hb⟩ => by
  obtain ⟨A,c,rfl,hc⟩:=zw ho
  exact ⟨A,c,h,hb⟩
theorem qw4 (W w:World) (gb ga:Nat) (A:Option Addr) (c:Nat) (l:List Nat) (q:Nat) (fr:List Fact) (hl:∀z∈l,z<256) (hq:q≤l.length) (hn:l.length≤100000000000) (hr:Rd W W.heap.size 1 A l.length (l.map B8)) (hc:l.length≤c)
    (HM:Mem W w (.blk gb #[.slice A l.length c] 30:: .blk ga #[.int .i64 (q:Int)] 3::fr)) {x m e p:Nat} (hvd:av (l.drop q)=(x,m,e)) (hp2:q+m=p):
    Calls Tryz.prog 318 #[.pointer (some ⟨gb,0,none⟩),.pointer (some ⟨ga,0,none⟩)] w fun r w'=>r= .returned (.tuple #[.int .u64 (x:Int),.int .i64 (e:Int)])∧Mem W w' (.blk gb #[.slice A l.length c] 30:: .blk ga #[.int .i64 (p:Int)] 3::fr):=by
 refine uT Tryz.func318 [vP gb 0,vP ga 0] [(0,vP gb 0),(1,vP ga 0)] fun a Z=>?_
 refine Jb Z HM ((JP∘Jp 2∘Jq) fun a Z HM=>?_)
 have hvl:m≤l.length-q:=by have h:=uw (l.drop q);rwa [hvd,List.length_drop] at h
 exact Jb Z HM ((JG∘JP∘Jc O0∘Jc O1∘Jy (h:=by exact Yl.sliceFrom aB (j:=q) rfl rfl rfl om)∘JI (h:=by exact fun HM=>qw0 _ _ _ (l.drop q) _ (Rd.qZ (HM.old hr) hq hc) (fun z hz=>hl z (List.mem_of_mem_drop hz)) om hvd)) fun mF hbw=>(Jp 1∘Jx∘Jx∘Jx∘Jp 3∘Jr∘Jc O1∘Jp 2∘Jo (vI p) (by exact zq om om)∘JW dO aZ) fun acG=>(uV∘Jr∘Jp 4∘Jj∘JZ∘bY) fun HM=>by exact ⟨rfl,HM.pt (fs':=(.blk gb #[.slice A l.length c] 30:: .blk ga #[vI p] 3::fr)) 2 [0,1]⟩)
theorem qw5 (b:Bs) (cpu:Nat) (bA:cpu<256) (A:Option Addr) (c:Nat) (l:List Nat) (B:Nat) (w:World) (hL:Laid B w) (hB:B≤w.heap.size) (hr:Rd w w.heap.size 1 A l.length (l.map B8)) (hc:l.length≤c) (hl:∀z∈l,z<256) (hn:l.length≤100000000000):Calls Tryz.prog 311 #[.agg b.cells,.int .u8 (cpu:Int),.slice A l.length c] w (Is w (.tuple #[.agg (aG b cpu l).1.cells,.int .i64 ((aG b cpu l).2.1:Int),.int .i64 ((aG b cpu l).2.2:Int)])):=by
 refine (Co Tryz.func311 101) ?_
 refine (JP∘JE) fun w3 g3=>(uX) fun w5 g5=>(JA #[vI 0,vI 0,vB 0,vB 0,vI 0,vI 0,vI 0,vI 0,vI 0,vQ 0,vI 0]) fun w6 g6=>(Jp 2∘Jj∘JQ∘JP∘Jy (v:= .agg b.cells) (h:=by exact Yl.qg rfl rfl eZ rfl (fun _ h=>qb (h.blk (i:=2) rfl)))∘JI (h:=by exact fun HM=>IL b _)) fun qJ hbw=>(Jp 1∘aY∘Jj) (Ju (fun fO=>?_) fun fO=>?_)
 ·
  refine (JT∘JP∘Jy (v:= .agg #[vI 0,vI 0,vB 0,vB 0,vI 0,vI 0,vI 0,vI 0,vI 0,vQ 0,vI 0]) (h:=by exact Yl.build (vs:=[]) rfl kr kr)∘JV zi aZ) fun pJ=>(Jp 2∘Jj∘JZ) fun a Z HM=>?_
  exact bE rfl Z (.cellS (i:=0) Z HM rfl rfl zi rfl) (.tmp Z rfl) (.tmp Z rfl) (yZ (q4j (by simpa using fO)) rfl rfl HM.below rfl)
 intro a Z HM
 have jJ:b.right=true:=by simpa using fO
 refine Jb Z HM ((JF∘aF∘JQ∘JP∘Jc O1∘Jl∘Jp 1∘aY∘Jj) (Ju (fun eD=>?_) fun eD=>?_))
 ·
  intro a Z HM
  have lI:=eq_of_beq eD
  refine Jb Z HM ((JT∘JP∘Jy (v:= .agg #[vI 0,vI 0,vB 0,vB 0,vI 0,vI 0,vI 0,vI 0,vI 0,vQ 0,vI 0]) (h:=by exact Yl.build (vs:=[]) rfl kr kr)∘JV zi aZ) fun zA=>(Jp 2∘Jj∘JZ) fun a Z HM=>?_)
  exact bE rfl Z (.cellS (i:=0) Z HM rfl rfl zi rfl) (.tmp Z rfl) (.tmp Z rfl) (yZ (q4k jJ om) rfl rfl HM.below rfl)
 intro a Z HM
 have lI:=ne_of_beq_false eD
 obtain ⟨kd,mH⟩:∃z,l.getD 0 0=z:=⟨_,rfl⟩
 have hkd:kd<256:=by rw [←mH];exact hl _ (q7 0 om)
 have uq:=qO kd
 refine Jb Z HM ((JF∘aF∘JP∘Jc O1) ?_)
 repeat (first|clear Z|clear HM)
 intro a Z HM
 obtain ⟨gA,oA,rfl,_⟩:=hr.qm (Nat.lt_of_le_of_lt (Nat.zero_le _) (show 0<l.length from by omega)) de
 refine Jb Z HM ((Jy (v:=vP gA oA) (h:=by exact Yl.indexAddr (ad:=⟨gA,oA,none⟩) (y:=0) (sz:=1) rfl rfl rfl om kr)∘Jy (v:=vB (l.getD 0 0)) (h:=by exact Yl.o1 hr 0 0 om rfl rfl)∘Jo (vB kd) (by rw [mH])∘JL (h:=by exact fun HM=>qtw kd hkd B _ (hL.mem HM hB) (HM.le hB))) ?_)
 rintro HM _ TT ⟨Af,cf,rfl,hbw⟩
 refine ⟨_,rfl,_,HM.call hbw,?_⟩
 refine (Jl∘Jp 1∘fJ∘Jj∘JQ∘JP∘Jp 2∘aR∘Jj) (Je (fun hd31=>?_) fun hd31=>?_)
 ·
  refine (JT∘JP∘Jy (v:= .agg #[vI 0,vI 0,vB 0,vB 0,vI 0,vI 0,vI 0,vI 0,vI 0,vQ 0,vI 0]) (h:=by exact Yl.build (vs:=[]) rfl kr kr)∘JV zi aZ) fun rF=>(Jp 2∘Jj∘JZ) fun a Z HM=>?_
  exact bE rfl Z (.cellS (i:=0) Z HM rfl rfl zi rfl) (.tmp Z rfl) (.tmp Z rfl) (yZ (q4l jJ om mH om) rfl rfl HM.below rfl)
 refine (JF∘aF∘JP∘JA #[vI 0]) fun rE g10=>(JW aZ aZ) fun rG=>(Jr∘Jy (h:=by exact Yl.makeFunc (fst:=[]) (caps:=[vP g5 0,vP g10 0]) rfl rfl rfl)∘Jp 1∘aR∘Jr∘Jp 1∘Jq) fun a Z HM=>?_
 replace HM:=HM.nil 41 1
 refine Jb Z HM ((JG∘JQ∘JP∘Jp 2∘Jo (vI (2+(aj kd).length:Nat)) (by exact zq om om)∘Jp 1∘Jj∘JB) fun a Z HM=>?_)
 refine qc (fun mS aS wS=>∃(k:Nat) (q:Nat) (xs:List Nat) (Ax:Option Addr) (cx:Nat),(k≤2+(aj kd).length)∧(xs.length=k)∧(q+1≤l.length)∧(∀x∈xs,x<18446744073709551616)∧(aH (2+(aj kd).length) (l.drop 1)=iK xs q (aH (2+(aj kd).length-k) (l.drop (q+1))))∧(xs.length≤cx)∧mS=2+(aj kd).length-k∧Fr aS 101 [] [(36,vI k),(35,vI (2+(aj kd).length:Nat)),(12,.slice Ax xs.length cx),(11,.func (.func 318) #[] #[vP g5 0,vP g10 0]),(10,vP g10 0),(31,.bool false),(9,vI ((aj kd).length:Nat)),(23,.bool false),(19,.bool false),(8,vI 0),(7,vI 0),(6,vP g6 0),(5,vP g5 0),(3,vP g3 0),(1,vB cpu)]∧Mem w wS [.row (.slice Ax xs.length cx) xs.length (xs.map dB) 41 1,.blk g10 #[vI (q+1:Nat)] 3,.blk g6 #[vI 0,vI 0,vB 0,vB 0,vI 0,vI 0,vI 0,vI 0,vI 0,vQ 0,vI 0] 73,.blk g5 #[.slice (some ⟨gA,oA,none⟩) l.length c] 30,.blk g3 b.cells 110]) (m:=2+(aj kd).length-0) ⟨0,0,[],none,0,Nat.zero_le _,rfl,om,(fun x hx=>by cases hx),q6g,Nat.le_refl _,rfl,Z.sub kr,HM.pk [0,1,2,3,4]⟩ ?_
 clear Z HM;rintro mS a w_ ⟨k,q,xs,Ax,cx,hk,hxl,hq,hxs,hrn,hcx,rfl,Z,HM⟩
 refine Jb Z HM ((JP∘Jp 1∘Jj∘JQ) (Ju (fun nM=>?_) fun nM=>?_))
 ·
  intro a Z HM
  have zB:=of_decide_eq_true nM
  have hqq:q+1≤l.length:=by omega
  obtain ⟨⟨x,m,e⟩,hvd⟩:∃r,av (l.drop (q+1))=r:=⟨_,rfl⟩
  have hxb:x<18446744073709551616:=by have h:=Ib (l.drop (q+1)) (fun z hz=>hl z (List.mem_of_mem_drop hz));rwa [hvd] at h
  have hml:m≤l.length- (q+1):=by have h:=uw (l.drop (q+1));rwa [hvd,List.length_drop] at h
  obtain ⟨N,hN⟩:∃N,2+(aj kd).length-k=N+1:=⟨2+(aj kd).length-k-1,by omega⟩
  rw [hN] at hrn
  refine Jb Z HM ((JT∘aF∘JQ∘JB∘JP∘Jp 1) fun a Z HM=>?_)
  refine fo Z 1 rfl rfl ?_
  replace HM:=HM.pk (fs':=[.blk g5 #[.slice (some ⟨gA,oA,none⟩) l.length c] 30,.blk g10 #[vI (q+1:Nat)] 3,.row (.slice Ax xs.length cx) xs.length (xs.map dB) 41 1,.blk g6 #[vI 0,vI 0,vB 0,vB 0,vI 0,vI 0,vI 0,vI 0,vI 0,vQ 0,vI 0] 73,.blk g3 b.cells 110]) [3,1,0,2,4]
  refine qX Z (f:=318) (vs:=[]) (fst:=[]) (caps:=[vP g5 0,vP g10 0]) rfl rfl rfl kr rfl de (qw4 w _ g5 g10 _ c l (q+1) [.row (.slice Ax xs.length cx) xs.length (xs.map dB) 41 1,.blk g6 #[vI 0,vI 0,vB 0,vB 0,vI 0,vI 0,vI 0,vI 0,vI 0,vQ 0,vI 0] 73,.blk g3 b.cells 110] hl hqq om hr hc HM hvd (show q+1+m=q+m+1 by omega)) ?_
  rintro _ TN ⟨rfl,hm⟩
  refine ⟨_,rfl,?_⟩
  replace HM:=hm
  clear Z;intro a Z
  refine Jb Z HM ((Jp 1∘Jx∘Jx∘Jp 2∘Jj∘JQ∘JP∘Jp 2∘aR∘Jj) (Jh (fun rH=>?_) fun rH=>?_))
  ·
   refine (JT∘JP∘Jy (v:= .agg #[vI 0,vI 0,vB 0,vB 0,vI 0,vI 0,vI 0,vI 0,vI 0,vQ 0,vI 0]) (h:=by exact Yl.build (vs:=[]) rfl kr kr)∘Jp 1∘JV zi jm) fun Ez=>(Jp 2∘Jj∘JZ) fun a Z HM=>?_
   exact bE rfl Z (.cellS (i:=3) Z HM rfl rfl zi rfl) (.tmp Z rfl) (.tmp Z rfl) (yZ ((IW jJ om mH om).trans ((congrArg _ (hrn.trans (q1e hvd om))).trans (qw3 om))) rfl rfl HM.below rfl)
  refine (JF∘aF∘JR∘Jp 2∘JU qbv #[vQ x]) fun w49 g49=>(JD ([x].map dB) 3 (fun _ _=>jm) qbv (hr:=by exact fun HM=>HM.aU (i:=0) (n:=1) (size:=1) rfl rfl) (h1:=by exact TI _)) fun IX TU TV EA=>(Jp 1∘dR∘Jq) fun a Z HM=>?_
  have rJ:(xs.length+1)=(xs++[x]).length:=by rw [List.length_append];rfl
  replace HM:=HM.aV (i:=3) (ys:=(xs++[x]).map dB) rfl rJ (by rw [List.map_append])
  rw [rJ] at EA
  replace Z:=Z.sp 12 (.slice TU ((xs++[x]).length) TV) rfl (by rw [rJ])
  refine Jb Z HM ((JG∘JR∘cK 1∘Jp 1∘aR∘Jq) fun a Z HM=>?_)
  exact ⟨_,om,k+1,(q+m),(xs++[x]),TU,TV,by omega,by rw [List.length_append,hxl];rfl,by omega,(fun y hy=>by rcases List.mem_append.1 hy with h|h;exact hxs y h;rw [List.mem_singleton.1 h];exact hxb),(hrn.trans ((qw2 hvd om).trans (by rw [List.drop_drop,show 2+(aj kd).length- (k+1)=N by omega,show q+1+m=q+m+1 by omega]))),EA,rfl,Z.sub kr,HM.pk [3,2,4,1,5]⟩
 intro a Z HM
 have zB:=of_decide_eq_false nM
 have acJ:xs.length=2+(aj kd).length:=by omega
 rw [show 2+(aj kd).length-k=0 by omega,q1f] at hrn
 obtain ⟨x0,hx0⟩:∃z,xs.getD 0 0=z:=⟨_,rfl⟩
 obtain ⟨x1,hx1⟩:∃z,xs.getD 1 0=z:=⟨_,rfl⟩
 have acK:=hxs x0 (by rw [←hx0];exact q7 0 om)
 have acM:=hxs x1 (by rw [←hx1];exact q7 0 om)
 have hbr:=of_decide_eq_true jJ
 refine Jb Z HM ((JF∘JX∘JG∘JQ) fun a Z HM=>?_)
 refine qw (fun aS wS=>Fr aS 101 [] [(69,.bool (decide (281474976710656-b.seq<(x0:Int)∨281474976710656-b.time<(x1:Int)))),(37,.bool false),(36,vI k),(35,vI (2+(aj kd).length:Nat)),(12,.slice Ax xs.length cx),(11,.func (.func 318) #[] #[vP g5 0,vP g10 0]),(10,vP g10 0),(31,.bool false),(9,vI ((aj kd).length:Nat)),(23,.bool false),(19,.bool false),(8,vI 0),(7,vI 0),(6,vP g6 0),(5,vP g5 0),(3,vP g3 0),(1,vB cpu)]∧Mem w wS [.row (.slice Ax xs.length cx) xs.length (xs.map dB) 41 1,.blk g10 #[vI (q+1:Nat)] 3,.blk g6 #[vI 0,vI 0,vB 0,vB 0,vI 0,vI 0,vI 0,vI 0,vI 0,vQ 0,vI 0] 73,.blk g5 #[.slice (some ⟨gA,oA,none⟩) l.length c] 30,.blk g3 b.cells 110]) ?_ ?_
 ·
  refine Jb Z HM ((Vs .n []) fun zC=>(Vp [0]∘Vf 3 0) ?_)
  repeat (first|clear Z|clear HM|clear HS)
  intro a Z HM HS
  obtain ⟨qL,rfl⟩:=zb (HM.own (i:=0) rfl) (Nat.lt_of_le_of_lt (Nat.zero_le _) (show 0<xs.length from by omega))
  refine Vb Z HM HS ((Vy 1 (v:=vP qL 0) (h:=by exact Yl.indexAddr (ad:=⟨qL,0,none⟩) (y:=0) (sz:=1) rfl rfl rfl om kr)∘Vy 2 (v:=vQ (xs.getD 0 0)) (h:=by exact Yl.r1 0 0 0 om rfl rfl rfl)∘Vo (vQ x0) (by rw [hx0])∘Vc 4 O4∘Vp [5]∘Vo (vI (281474976710656-b.seq)) (by exact oH ⟨by omega,by omega⟩)∘Vq [6] [(58,vQ (IntKind.u64.wrap (281474976710656-b.seq)))]∘Vo (vQ ((281474976710656-b.seq).toNat)) (by exact II ⟨by omega,by omega⟩ rfl)∘Vp [7,8]) fun a Z HM HS=>?_)
  rcases Z.tf 60 rfl with ⟨zD,Z⟩|⟨zD,Z⟩
  ·
   have zF:=of_decide_eq_true zD
   refine Vb Z HM HS ((Vq [9,10,11,12,13,14,15,16] [(68,undef)]∘Vq [17] [(69,.bool true)]∘Vo (.bool (decide (281474976710656-b.seq<(x0:Int)∨281474976710656-b.time<(x1:Int)))) (by exact oN (by simp only [decide_eq_true_eq];first|omega|exact iff_of_true trivial om|exact iff_of_false id om))∘Vd∘aI) fun a Z HM=>?_)
   exact ⟨Z.sub kr,HM.pk [0,1,2,3,4]⟩
  have zF:=of_decide_eq_false zD
  refine ap Z (fun _=>HS) [9,12] (bt 18 [10,11,13,14,15,16,17]) [(64,vP g3 1),(61,vS qL xs.length cx)] fun a Z=>?_
  refine cB Z HS 10 rfl (v:=vP qL 1) (Yl.indexAddr (ad:=⟨qL,0,none⟩) (y:=1) (sz:=1) rfl rfl rfl om kr) fun a Z=>?_
  refine cB Z HS 11 rfl (v:=vQ (xs.getD 1 0)) (Yl.r1 0 1 0 om rfl rfl rfl) fun a Z=>?_
  replace Z:=Z.sp 63 (vQ x1) rfl (by rw [hx1])
  refine jA Z HS 13 4 (v:=vI b.time) fun a Z=>?_
  refine ze Z (fun _=>HS) (i:=14) rfl rfl (d:=66) rfl de kr (fun _ _ _ h=>h) (v:=vI (IntKind.i64.wrap (281474976710656-b.time))) (fun _=>Yl.pure kr) fun a Z=>?_
  replace Z:=Z.sp 66 (vI (281474976710656-b.time)) rfl (oH ⟨by omega,by omega⟩)
  refine ze Z (fun _=>HS) (i:=15) rfl rfl (d:=67) rfl de kr (fun _ _ _ h=>h) (v:=vQ (IntKind.u64.wrap (281474976710656-b.time))) (fun _=>Yl.pure kr) fun a Z=>?_
  replace Z:=Z.sp 67 (vQ ((281474976710656-b.time).toNat)) rfl (II ⟨by omega,by omega⟩ rfl)
  refine ap Z (fun _=>HS) [16] (bt 18 [17]) [(68,.bool (decide ((x1:Int)>((281474976710656-b.time).toNat:Int))))] fun a Z=>?_
  refine ze Z (fun _=>HS) (i:=17) rfl rfl (d:=69) rfl de kr (fun _ _ _ h=>h) (v:= .bool (decide ((x1:Int)>((281474976710656-b.time).toNat:Int)))) (fun _=>Yl.pure kr) fun a Z=>?_
  replace Z:=Z.sp 69 (.bool (decide (281474976710656-b.seq<(x0:Int)∨281474976710656-b.time<(x1:Int)))) rfl (oN (by simp only [decide_eq_true_eq];first|omega|exact iff_of_true trivial om|exact iff_of_false id om))
  refine qd kr ?_
  exact ⟨Z.sub kr,HM.pk [0,1,2,3,4]⟩
 clear Z HM;rintro a qJ ⟨Z,HM⟩
 refine Jb Z HM (Ju (fun lJ=>?_) fun lJ=>?_)
 ·
  intro a Z HM
  have MG:=of_decide_eq_true lJ
  refine Jb Z HM ((JT∘JP∘Jy (v:= .agg #[vI 0,vI 0,vB 0,vB 0,vI 0,vI 0,vI 0,vI 0,vI 0,vQ 0,vI 0]) (h:=by exact Yl.build (vs:=[]) rfl kr kr)∘JV zi fF) fun TW=>(Jp 2∘Jj∘JZ) fun a Z HM=>?_)
  exact bE rfl Z (.cellS (i:=2) Z HM rfl rfl zi rfl) (.tmp Z rfl) (.tmp Z rfl) (yZ ((IW jJ om mH om).trans ((congrArg _ hrn).trans (qqt hx0 hx1 (of_decide_eq_true lJ)))) rfl rfl HM.below rfl)
 intro a Z HM
 have MG:=of_decide_eq_false lJ
 have vg:¬(281474976710656-b.seq<(x0:Int)∨281474976710656-b.time<(x1:Int)):=of_decide_eq_false lJ
 obtain ⟨E,hE⟩:∃E,b.ev cpu kd x0 x1=E:=⟨_,rfl⟩
 obtain ⟨er,hEr⟩:∃er,E.aD (xs.drop 2)=er:=⟨_,rfl⟩
 have TY:E.Ok:=by rw [←hE];exact q4m hbr bA hkd om om
 refine Jb Z HM ((JF∘aF) fun a Z HM=>?_)
 refine qw (fun aS wS=>∃(g15:Nat),Fr aS 101 [] [(16,vI er),(15,vP g15 0),(69,.bool false),(37,.bool false),(36,vI k),(35,vI (2+(aj kd).length:Nat)),(12,.slice Ax xs.length cx),(11,.func (.func 318) #[] #[vP g5 0,vP g10 0]),(10,vP g10 0),(31,.bool false),(9,vI ((aj kd).length:Nat)),(23,.bool false),(19,.bool false),(8,vI 0),(7,vI 0),(6,vP g6 0),(5,vP g5 0),(3,vP g3 0)]∧Mem w wS [.blk g15 ((E.aP (xs.drop 2)).cells) 73,.row (.slice Ax xs.length cx) xs.length (xs.map dB) 41 1,.blk g10 #[vI (q+1:Nat)] 3,.blk g6 #[vI 0,vI 0,vB 0,vB 0,vI 0,vI 0,vI 0,vI 0,vI 0,vQ 0,vI 0] 73,.blk g5 #[.slice (some ⟨gA,oA,none⟩) l.length c] 30,.blk g3 b.cells 110]) ?_ ?_
 ·
  refine Jb Z HM ((Vs .n [26]) fun acN=>(Vf 0 0∘Vp [2]∘Vf 7 1∘Vp [9,14,19]∘Vc 1 O4) ?_)
  repeat (first|clear Z|clear HM|clear HS)
  intro a Z HM HS
  obtain ⟨qL,rfl⟩:=zb (HM.own (i:=0) rfl) (Nat.lt_of_le_of_lt (Nat.zero_le _) (show 0<xs.length from by omega))
  refine Vb Z HM HS ((Vy 3 (v:=vP qL 0) (h:=by exact Yl.indexAddr (ad:=⟨qL,0,none⟩) (y:=0) (sz:=1) rfl rfl rfl om kr)∘Vy 4 (v:=vQ (xs.getD 0 0)) (h:=by exact Yl.r1 0 0 0 om rfl rfl rfl)∘Vo (vQ x0) (by rw [hx0])∘Vw 5 .i64∘Vp [6]∘Vo (vI (b.seq+x0)) (by exact oH ⟨by omega,by omega⟩)∘Vc 8 O4∘Vy 10 (v:=vP qL 1) (h:=by exact Yl.indexAddr (ad:=⟨qL,0,none⟩) (y:=1) (sz:=1) rfl rfl rfl om kr)∘Vy 11 (v:=vQ (xs.getD 1 0)) (h:=by exact Yl.r1 0 1 0 om rfl rfl rfl)∘Vo (vQ x1) (by rw [hx1])∘Vw 12 .i64∘Vp [13]∘Vo (vI (b.time+x1)) (by exact oH ⟨by omega,by omega⟩)∘Vc 15 O3∘Vy 16 (v:=vP gA oA) (h:=by exact Yl.indexAddr (ad:=⟨gA,oA,none⟩) (y:=0) (sz:=1) rfl rfl rfl om kr)∘Vy 17 (v:=vB (l.getD 0 0)) (h:=by exact Yl.o1 hr 0 0 om rfl rfl)∘Vo (vB kd) (by rw [mH])∘Vy 18 (v:= .agg #[vI (b.seq+x0),vI (b.time+x1),vB cpu,vB kd,vI 0,vI 0,vI 0,vI 0,vI 0,vQ 0,vI 0]) (h:=by exact Yl.build (vs:=[(0,vI (b.seq+x0)),(1,vI (b.time+x1)),(2,vB cpu),(3,vB kd)]) rfl kr kr)∘Vo (.agg E.cells) (by rw [←hE];try rfl)∘Vy 20 (h:=by exact Yl.sliceFrom qbv (j:=2) rfl rfl rfl om)) fun a Z HM HS=>?_)
  refine pE [21,25] kr rfl ?_
  refine all_cons ?_ ?_
  ·refine jl Z (i:=21) rfl rfl ?_
   refine D6 Z HM [.agg E.cells,.slice (if cx=2 then some ⟨qL,0,none⟩ else (some ⟨qL,0,none⟩:Option Addr).map (·.add (2*1))) (xs.length-2) (cx-2)] (.tuple #[.agg ((E.aP (xs.drop 2)).cells),vI er]) rfl rfl (TR E TY _ _ _ (xs.drop 2) B _ (hL.mem HM hB) (HM.le hB) (Rd.TS (HM.rd (i:=0) rfl) om om) (fun x hx=>hxs x (List.mem_of_mem_drop hx)) hEr) fun IY hbw HM a Z=>?_
   refine aK (HM.pk [0,1,2,3,4]) (fun HS=>?_)
   refine Vb Z HM HS ((Vp [22]∘Vx 23∘Vx 24∘VA 25 .n #[vI 0,vI 0,vB 0,vB 0,vI 0,vI 0,vI 0,vI 0,vI 0,vQ 0,vI 0]) fun oM g15=>fun a Z HM HS=>?_)
   refine s_on Z 26 rfl (bN Z HM 0 rfl rfl rfl rfl rfl zi rfl rfl (zf (E.aP (xs.drop 2))) fun zG HM=>?_)
   refine fZ kr ?_
   refine ap Z (dJ kr) [27] (bt 28 []) [(16,vI er)] fun a Z=>?_
   refine qd kr ?_
   exact ⟨g15,Z.sub kr,HM.pk [0,1,2,3,4,5]⟩
  refine all_cons ?_ all_nil
  refine jl Z (i:=25) rfl rfl ?_
  refine kF Z HM #[vI 0,vI 0,vB 0,vB 0,vI 0,vI 0,vI 0,vI 0,vI 0,vQ 0,vI 0] ?_
  clear Z HM;intro a oM g15 Z HM
  refine aK (HM.pk [1,2,3,4,5]) (fun HS=>?_)
  refine Vb Z HM HS ((VI 21 (.f .n) (h:=by exact fun HM=>TR E TY _ _ _ (xs.drop 2) B _ (hL.mem HM hB) (HM.le hB) (Rd.TS (HM.rd (i:=1) rfl) om om) (fun x hx=>hxs x (List.mem_of_mem_drop hx)) hEr)) fun IY hbw=>(Vp [22]∘Vx 23∘Vx 24) fun a Z HM HS=>?_)
  refine s_on Z 26 rfl (bN Z HM 0 rfl rfl rfl rfl rfl zi rfl rfl (zf (E.aP (xs.drop 2))) fun zG HM=>?_)
  refine fZ kr ?_
  refine ap Z (dJ kr) [27] (bt 28 []) [(16,vI er)] fun a Z=>?_
  refine qd kr ?_
  exact ⟨g15,Z.sub kr,HM.pk [0,1,2,3,4,5]⟩
 clear Z HM;rintro a pK ⟨g15,Z,HM⟩
 refine Jb Z HM ((JQ∘JP∘Jp 2∘aY∘Jj) (Jh (fun MH=>?_) fun MH=>?_))
 ·
  refine (JT∘JP∘Jy (v:= .agg #[vI 0,vI 0,vB 0,vB 0,vI 0,vI 0,vI 0,vI 0,vI 0,vQ 0,vI 0]) (h:=by exact Yl.build (vs:=[]) rfl kr kr)∘JV zi jm) fun T9=>(Jp 2∘Jj∘JZ) fun a Z HM=>?_
  exact bE rfl Z (.cellS (i:=3) Z HM rfl rfl zi rfl) (.tmp Z rfl) (.tmp Z rfl) (yZ ((IW jJ om mH om).trans ((congrArg _ hrn).trans (qtu hx0 hx1 vg hE hEr om))) rfl rfl HM.below rfl)
 refine (JF∘aF) fun a Z HM=>?_
 refine wp_seq ?_
 refine Jb Z HM ((Vs (.t (.t (.t (.f .n)))) []) fun acO=>(Vy 0 (v:= .agg ((E.aP (xs.drop 2)).cells)) (h:=by exact Yl.qg rfl rfl zi rfl (fun _ h=>qb (h.blk (i:=0) rfl)))∘Vc 1 O2) fun a Z HM HS=>?_)
 refine s_on Z 2 rfl (bN Z HM 3 rfl rfl rfl rfl rfl zi rfl rfl (zf (E.aP (xs.drop 2))) fun Ua HM=>?_)
 refine aK (HM.pk [0,1,2,4,5]) (fun HS=>?_)
 refine Vb Z HM HS ((Vp [3,4]∘Vd∘JZ) fun a Z HM=>?_)
 exact bE rfl Z (.cellS (i:=3) Z HM rfl rfl zi rfl) (.tmp Z rfl) (.tmp Z rfl) (yZ ((IW jJ om mH om).trans ((congrArg _ hrn).trans (qtv hx0 hx1 vg hE hEr om))) om rfl HM.below rfl)
theorem q4n (b:Bs) (cpu:Nat) (bA:cpu<256) (A:Option Addr) (n c:Nat) (l:List Nat) (B:Nat) (w:World) (hL:Laid B w) (hB:B≤w.heap.size) (hr:Rd w w.heap.size 1 A n (l.map B8)) (hc:n≤c) (hl:∀b∈l,b<256) (hn:n≤100000000000) {e:Ev} {L er:Nat} (h:aG b cpu l=(e,L,er)):
  Calls Tryz.prog 311 #[.agg b.cells,.int .u8 (cpu:Int),.slice A n c] w (Is w (.tuple #[.agg e.cells,.int .i64 (L:Int),.int .i64 (er:Int)])):=by
 obtain rfl:l.length=n:=by simpa using hr.len
 have k:=qw5 b cpu bA A c l B w hL hB hr hc hl hn
 rwa [h] at k
def Ub (W:World) (lp cpu:Nat) (Inv:Bs→List Nat→List Fact→Prop) (Stop:List Fact→Prop):Prop:=
 ∀(bk:Bs) (rest:List Nat) (F fr:List Fact) (w:World) (e:Ev) (m er:Nat),Inv bk rest F→aG bk cpu rest=(e,m,er)→Mem W w (F++fr)→
  YieldAt Fence.wide 0 Tryz.prog lp #[.agg #[.int .i64 e.seq,.int .i64 e.time,.int .u8 (e.cpu:Int),.int .u8 (e.kind:Int),.int .i64 e.task,.int .i64 e.group,.int .i64 e.to,.int .i64 e.weight,.int .i64 e.ticks,.int .u64 (e.mask:Int),.int .i64 e.got,.int .i64 (m:Int)],.int .i64 (er:Int)] w fun x w'=>∃F',Mem W w' (F'++fr)∧((er=0∧x= .returned (.bool true)∧Inv e.at (rest.drop m) F')∨(x= .returned (.bool false)∧Stop F'))
def q1g (W:World) (Stop:List Fact→Prop) (r:Ending) (w':World):Prop:=∃v,r= .returned v∧∃F',Mem W w' F'∧Stop F'
theorem qmn {W:World} {fr:List Fact} {er:Nat} {I S:List Fact→Prop}:∀(e:Ending) (w':World),(∃F',Mem W w' (F'++fr)∧((er=0∧e= .returned (.bool true)∧I F')∨(e= .returned (.bool false)∧S F')))→∃v,e= .returned v
 |_,_,⟨_,_,.inl ⟨_,h,_⟩⟩=>⟨_,h⟩
 |_,_,⟨_,_,.inr ⟨h,_⟩⟩=>⟨_,h⟩
section
variable {b bk:Bs} {cpu m a mm er:Nat} {l rest:List Nat} {es:List Ev} {e:Ev}
theorem Uc (hl:es.length≠0) {q:Ev} (hq:es.getD (es.length-1) Ev.zero=q):es.getLast?=some q:=by
 rw [List.getLast?_eq_getElem?,List.getElem?_eq_getElem om,←hq,List.getD_eq_getElem?_getD,List.getElem?_eq_getElem om]
 rfl
theorem q6h (h:qj cpu m b none l=dL es a (qj cpu (m-es.length) bk es.getLast? rest)) (hm:es.length<m) (hq:aG bk cpu rest=(e,mm,er)) (h0:er≠0):qj cpu m b none l=([],0,er):=by
 rw [h,show m-es.length=m-es.length-1+1 by omega]
 exact Tx hq h0 es a
theorem q4o (h:qj cpu m b none l=dL es a (qj cpu (m-es.length) bk es.getLast? rest)) (hm:es.length<m) (hq:aG bk cpu rest=(e,mm,0)) {q:Ev} (hl:es.length≠0) (hx:es.getD (es.length-1) Ev.zero=q) (hs:e.seq=q.seq):qj cpu m b none l=([],0,71):=by
 rw [h,show m-es.length=m-es.length-1+1 by omega,Uc hl hx]
 exact Tz hq (p:=some q) (decide_eq_true hs) es a
theorem Ud (h:qj cpu m b none l=dL es a (qj cpu (m-es.length) bk es.getLast? rest)) (hm:es.length<m) (hq:aG bk cpu rest=(e,mm,0)) {q:Ev} (hx:es.getD (es.length-1) Ev.zero=q) (hs:es.length=0∨e.seq≠q.seq):
  qj cpu m b none l=dL (es++[e]) (a+mm) (qj cpu (m- (es++[e]).length) e.at (es++[e]).getLast? (rest.drop mm)):=by
 rw [h,show m-es.length=m- (es++[e]).length+1 by rw [List.length_append];simp only [List.length_singleton];omega,List.getLast?_append]
 refine TA hq ?_ es a
 rcases hs with h0|h0
 ·rw [List.eq_nil_of_length_eq_zero h0];rfl
 ·by_cases hz:es.length=0
  ·rw [List.eq_nil_of_length_eq_zero hz];rfl
  ·rw [Uc hz hx];exact (decide_eq_false h0:)
theorem q6i (h:qj cpu m b none l=dL es a (qj cpu (m-es.length) bk es.getLast? rest)) (hm:es.length=m):qj cpu m b none l=(es,a,0):=by
 rw [h,show m-es.length=0 by omega]
 show (es++[],a+0,0)=_
 rw [List.append_nil]
 rfl
end
def MI (w:World) (q:List Ev×Nat×Nat) (r:Ending) (w':World):Prop:=(∃A c,r= .returned (.tuple #[.slice A q.1.length c,.int .i64 (q.2.1:Int),.int .i64 (q.2.2:Int)])∧w'.ownsRow w.heap.size 73 11 (.slice A q.1.length c) q.1.length (q.1.flatMap aN)∧q.1.length≤c)∧Below w.heap.size w w'
theorem IZ {w w':World} {q:List Ev×Nat×Nat} {er:Nat} (h:q=([],0,er)) (hb:Below w.heap.size w w'):MI w q (.returned (.tuple #[.slice none 0 0,.int .i64 0,.int .i64 (er:Int)])) w':=by
 subst h
 exact ⟨⟨none,0,rfl,World.ownsRow_nil _ _ _ _,Nat.le_refl _⟩,hb⟩
theorem q1h {w w':World} {q:List Ev×Nat×Nat} {es:List Ev} {a c:Nat} {A:Option Addr} (h:q=(es,a,0)) (ho:w'.ownsRow w.heap.size 73 11 (.slice A es.length c) es.length (es.flatMap aN)) (hc:es.length≤c) (hb:Below w.heap.size w w'):MI w q (.returned (.tuple #[.slice A es.length c,.int .i64 (a:Int),.int .i64 0])) w':=by
 subst h
 exact ⟨⟨A,c,rfl,ho,hc⟩,hb⟩
section
variable {b:Bs} {cpu:Nat} {n:Int} {l:List Nat}
theorem qtx (h:n<0):bq b cpu n l=([],0,2):=if_pos h
theorem qqv (h:¬n<0) (h1:b.right=false):bq b cpu n l=([],0,70):=by unfold bq;rw [if_neg h,if_pos h1]
theorem MJ {m:Nat} (h1:b.right=true):bq b cpu (m:Int) l=qj cpu m b none l:=by unfold bq;rw [if_neg om,if_neg (by rw [h1];decide)];rfl
theorem qqw {m:Nat} (h:m=0) (h1:b.right=true):bq b cpu (m:Int) l=([],0,0):=by subst h;exact (MJ h1).trans rfl
end
theorem qw7 (W w:World) (gb gc gy lp B cpu:Nat) (bA:cpu<256) (b:Bs) (A:Option Addr) (c:Nat) (l:List Nat) (Inv:Bs→List Nat→List Fact→Prop) (Stop:List Fact→Prop) (F0:List Fact) (hL:Laid B W) (hB:B≤W.heap.size) (hr:Rd W W.heap.size 1 A l.length (l.map B8)) (hc:l.length≤c) (hl:∀z∈l,z<256) (hn:l.length≤100000000000)
    (hy:Ub W lp cpu Inv Stop) (hI0:Inv b l F0) (HM:Mem W w (.blk gb b.cells 110:: .blk gc #[.int .u8 (cpu:Int)] 5:: .blk gy #[.slice A l.length c] 30::F0)):
    Calls Tryz.prog 310 (.func (.yield lp) #[] #[]:: [.pointer (some ⟨gb,0,none⟩),.pointer (some ⟨gc,0,none⟩),.pointer (some ⟨gy,0,none⟩)]).toArray w (q1g W Stop):=by
 refine uT Tryz.func310 [.func (.yield lp) #[] #[],vP gb 0,vP gc 0,vP gy 0] [(0,.func (.yield lp) #[] #[]),(1,vP gb 0),(2,vP gc 0),(3,vP gy 0)] fun a Z=>?_
 refine Jb Z HM ((JB) fun a Z HM=>?_)
 refine qc (fun mS aS wS=>∃(bk:Bs) (rest:List Nat) (X:Option Addr) (cc:Nat) (F:List Fact),(Inv bk rest F)∧(Rd W W.heap.size 1 X rest.length (rest.map B8))∧(rest.length≤cc)∧(∀z∈rest,z<256)∧(rest.length≤l.length)∧mS=rest.length∧Fr aS 32 [] [(0,.func (.yield lp) #[] #[]),(1,vP gb 0),(2,vP gc 0),(3,vP gy 0)]∧Mem W wS (.blk gb bk.cells 110:: .blk gc #[vB cpu] 5:: .blk gy #[.slice X rest.length cc] 30::F)) (m:=l.length) ⟨b,l,A,c,F0,hI0,hr,hc,hl,Nat.le_refl _,rfl,Z.sub kr,HM.pt 3 [0,1,2]⟩ ?_
 clear Z HM;rintro mS a w_ ⟨bk,rest,X,cc,F,hI,hX,hcc,hrl,hrn,rfl,Z,HM⟩
 obtain ⟨⟨e,m,er⟩,hq⟩:∃r,aG bk cpu rest=r:=⟨_,rfl⟩
 refine Jb Z HM ((JB∘JP∘Jy (v:= .agg bk.cells) (h:=by exact Yl.qg rfl rfl eZ rfl (fun _ h=>qb (h.blk (i:=0) rfl)))∘Jc O1∘Jc O2∘JI (h:=by exact fun HM=>q4n bk cpu bA X rest.length cc rest B _ (hL.mem HM hB) (HM.le hB) (HM.old hX) hcc hrl om hq)) fun Cx hbw=>(Jp 1∘Jx∘Jx∘Jx∘JA #[vI 0,vI 0,vB 0,vB 0,vI 0,vI 0,vI 0,vI 0,vI 0,vQ 0,vI 0]) fun w5 g5=>(JV zi aZ (h1:=by exact zf e)) fun ac0=>(Jp 2∘Jj∘JQ) fun a Z HM=>?_)
 refine wp_seq ?_
 refine SS (i:=5) ?_
 refine Jb Z HM ((Jp 1∘Jy (v:= .agg e.cells) (h:=by exact Yl.qg rfl rfl zi rfl (fun _ h=>qb (h.blk (i:=0) rfl)))∘Jp 1∘Jy (v:= .agg #[vI e.seq,vI e.time,vB e.cpu,vB e.kind,vI e.task,vI e.group,vI e.to,vI e.weight,vI e.ticks,vQ e.mask,vI e.got,vI m]) (h:=by exact Yl.build (vs:=[(0,.agg e.cells),(1,vI m)]) rfl kr kr)∘Jp 1∘Jq) fun a Z HM=>?_)
 refine SV Z (i:=5) (vs:=[.agg #[vI e.seq,vI e.time,vB e.cpu,vB e.kind,vI e.task,vI e.group,vI e.to,vI e.weight,vI e.ticks,vQ e.mask,vI e.got,vI m],vI er]) rfl rfl rfl rfl rfl rfl de (hy bk rest F _ _ e m er hI hq (Mem.Em (F:=[.blk g5 e.cells 73,.blk gb bk.cells 110,.blk gc #[vB cpu] 5,.blk gy #[.slice X rest.length cc] 30]) HM)) qmn ?_
 clear Z HM;rintro v pK a ⟨F2,HM,(⟨he,hv,hI2⟩|⟨hv,hS2⟩)⟩ Z<;>injection hv with hv<;>subst hv
 ·
  replace HM:Mem W pK (.blk g5 e.cells 73:: .blk gb bk.cells 110:: .blk gc #[vB cpu] 5:: .blk gy #[.slice X rest.length cc] 30::F2):=Mem.Em (es:=[.blk g5 e.cells 73,.blk gb bk.cells 110,.blk gc #[vB cpu] 5,.blk gy #[.slice X rest.length cc] 30]) HM
  have hof:=IE bk cpu rest;rw [hq] at hof;replace hof:m≤rest.length∧0<m:=⟨hof.1,hof.2 he⟩
  refine Jb Z HM ((Jp 4∘Jo (.bool false) (by rw [he];try rfl)∘Jp 1∘aI∘Jq∘JF∘aF∘Vs (.t (.f .n)) [6]) fun wd2=>(Vp [3]∘Vy 0 (v:= .agg e.cells) (h:=by exact Yl.qg rfl rfl zi rfl (fun _ h=>qb (h.blk (i:=0) rfl)))∘Vc 2 O2∘Vy 4 (v:= .slice (if cc=m then X else X.map (·.add (m*1))) (rest.length-m) (cc-m)) (h:=by exact Yl.sliceFrom aB (j:=m) rfl rfl rfl om)∘Vo (.slice (if cc=m then X else X.map (·.add (m*1))) ((rest.drop m).length) (cc-m)) (by rw [List.length_drop])∘VI 1 (.t (.f .n)) (h:=by exact fun HM=>TK e _)) fun TT hbw=>fun a Z HM HS=>?_)
  refine s_on Z 5 rfl (bN Z HM 1 rfl rfl rfl rfl rfl eZ rfl rfl (Ct e.at) fun ac1 HM=>?_)
  refine aK (HM.pt 4 [0,2,3]) (fun HS=>?_)
  refine s_on Z 6 rfl (gu Z HM 3 fun ac2 HM=>?_)
  refine fZ kr ?_
  refine qd kr ?_
  exact ⟨_,(by rw [List.length_drop];omega),e.at,(rest.drop m),if cc=m then X else X.map (·.add (m*1)),cc-m,F2,hI2,by rw [List.length_drop];exact hX.qZ hof.1 hcc,by rw [List.length_drop];omega,fun z hz=>hrl z (List.mem_of_mem_drop hz),by rw [List.length_drop];omega,rfl,Z.sub kr,HM.pt 4 [1,2,3]⟩
 ·
  replace HM:Mem W pK (.blk g5 e.cells 73:: .blk gb bk.cells 110:: .blk gc #[vB cpu] 5:: .blk gy #[.slice X rest.length cc] 30::F2):=Mem.Em (es:=[.blk g5 e.cells 73,.blk gb bk.cells 110,.blk gc #[vB cpu] 5,.blk gy #[.slice X rest.length cc] 30]) HM
  refine Jb Z HM ((Jp 5∘aI∘Jq∘JT∘JZ) fun a Z HM=>?_)
  exact yQ rfl Z (⟨_,rfl,F2,Mem.Md [.blk g5 e.cells 73,.blk gb bk.cells 110,.blk gc #[vB cpu] 5,.blk gy #[.slice X rest.length cc] 30] HM,hS2⟩)
theorem q1i (b:Bs) (cpu:Nat) (A:Option Addr) (n c:Nat) (w:World):
    Calls Tryz.prog 292 #[.agg b.cells,.int .u8 (cpu:Int),.slice A n c] w fun r w'=>∃gb gc gy,r= .returned (.func (.func 310) #[] #[.pointer (some ⟨gb,0,none⟩),.pointer (some ⟨gc,0,none⟩),.pointer (some ⟨gy,0,none⟩)])∧Mem w w' [.blk gy #[.slice A n c] 30,.blk gc #[.int .u8 (cpu:Int)] 5,.blk gb b.cells 110]:=by
 refine (Co Tryz.func292 8) ?_
 exact (JP∘JE) fun w3 g3=>(uX) fun w4 g4=>(uX) fun w5 g5=>(Jp 1∘Jr∘Jy (h:=by exact Yl.makeFunc (fst:=[]) (caps:=[vP g3 0,vP g4 0,vP g5 0]) rfl rfl rfl)∘Jp 1∘aR∘Jj∘JZ∘bB) fun HM=>by exact ⟨_,_,_,rfl,HM⟩
theorem qty (b:Bs) (cpu:Nat) (bA:cpu<256) (A:Option Addr) (c:Nat) (n:Int) (hni:aM n) (l:List Nat) (B0:Nat) (w:World) (hL:Laid B0 w) (hB:B0≤w.heap.size) (hr:Rd w w.heap.size 1 A l.length (l.map B8)) (hc:l.length≤c) (hl:∀z∈l,z<256) (hn:l.length≤100000000000) (hlim:Mt n l):
    Calls Tryz.prog 250 #[.agg b.cells,.int .u8 (cpu:Int),.int .i64 n,.slice A l.length c] w (MI w (bq b cpu n l)):=by
 refine Mf (vs:=[.agg b.cells,vB cpu,vI n,.slice A l.length c]) Tryz.func250 rfl rfl kr (σ0:=[(0,.agg b.cells),(1,vB cpu),(2,vI n),(3,.slice A l.length c)]) rfl ?_
 intro a Z
 have HM:=Mem.start w
 refine Jb Z HM ((JP∘JE) fun w4 g4=>(uX) fun w6 g6=>(JA #[.slice none 0 0]) fun w8 g8=>(JA #[vI 0]) fun w9 g9=>(JA #[vI 0]) fun rE g10=>(Jj∘JQ∘JP∘Jc O3∘Jp 1∘aR∘Jj) (Ju (fun dU=>?_) fun dU=>?_))
 ·
  intro a Z HM
  have lC:=of_decide_eq_true dU
  refine Jb Z HM ((JT∘JP∘JW fF aZ) fun EB=>(JW dO aZ) fun pJ=>(JW aZ aZ) fun MK=>(Jj∘JZ) fun a Z HM=>?_)
  refine En ?_
  exact bE rfl Z (.cell1 (i:=2) Z HM rfl rfl kr rfl) (.cell1 (i:=1) Z HM rfl rfl kr rfl) (.cell1 (i:=0) Z HM rfl rfl kr rfl) (IZ (qtx om) HM.below)
 intro a Z HM
 have lC:=of_decide_eq_false dU
 revert HM;revert a;repeat (first|clear Z|clear HM)
 intro a Z HM
 obtain ⟨m,rfl⟩:∃k:Nat,n=(k:Int):=⟨n.toNat,by omega⟩
 refine Jb Z HM ((JF∘aF∘JQ∘JP∘Jy (v:= .agg b.cells) (h:=by exact Yl.qg rfl rfl eZ rfl (fun _ h=>qb (h.blk (i:=4) rfl)))∘JI (h:=by exact fun HM=>IL b _)) fun qJ hbw=>(Jp 1∘aY∘Jj) (Ju (fun fO=>?_) fun fO=>?_))
 ·
  refine (JT∘JP∘JW fF aZ) fun ac5=>(JW dO aZ) fun zA=>(JW aZ aZ) fun ac6=>(Jj∘JZ) fun a Z HM=>?_
  refine En ?_
  exact bE rfl Z (.cell1 (i:=2) Z HM rfl rfl kr rfl) (.cell1 (i:=1) Z HM rfl rfl kr rfl) (.cell1 (i:=0) Z HM rfl rfl kr rfl) (IZ (qqv om (by simpa using fO)) HM.below)
 intro a Z HM
 have jJ:b.right=true:=by simpa using fO
 refine Jb Z HM ((JF∘aF∘JQ∘JP∘Jc O3∘Jp 1∘aR∘Jj) (Je (fun gF=>?_) fun gF=>?_))
 ·
  refine (JT∘JP∘JW fF aZ) fun ac7=>(JW dO aZ) fun EC=>(JW aZ aZ) fun ML=>(Jj∘JZ) fun a Z HM=>?_
  refine En ?_
  exact bE rfl Z (.cell1 (i:=2) Z HM rfl rfl kr rfl) (.cell1 (i:=1) Z HM rfl rfl kr rfl) (.cell1 (i:=0) Z HM rfl rfl kr rfl) (IZ (qqw om jJ) HM.below)
 refine (JF∘aF∘JP∘JA #[.slice none 0 0]) fun mF g11=>(Jq) fun a Z HM=>?_
 replace HM:=HM.nil 73 11
 refine Jb Z HM ((JG∘JP∘JA #[vI 0]) fun Cx g12=>(JW aZ aZ) fun rG=>(Jj∘JQ∘JP∘Jy (v:= .agg b.cells) (h:=by exact Yl.qg rfl rfl eZ rfl (fun _ h=>qb (h.blk (i:=7) rfl)))∘Jp 2∘JL (h:=by exact fun HM=>q1i b cpu A l.length c _)) ?_)
 rintro HM _ rM ⟨gb,gc,gy,rfl,hm⟩
 refine ⟨_,rfl,_,HM.join hm,?_⟩
 refine (bT∘Jj∘JB) fun a Z HM=>?_
 refine Me Z HM (fun _=>False) (fun c F=>(c= .ret∧∃(er:Nat),(qj cpu m b none l=([],0,er))∧F=[.blk g10 #[vI er] 27,.blk g9 #[vI 0] 3,.blk g8 #[.slice none 0 0] 83,.blk g6 #[vI m] 3,.blk g4 b.cells 110])∨(c=(.exit 0)∧∃(es:List Ev) (iY:Nat) (Ao:Option Addr) (co:Nat),(qj cpu m b none l=(es,iY,0))∧(es.length≤co)∧F=[.blk g12 #[vI iY] 3,.row (.slice Ao es.length co) es.length (es.flatMap aN) 73 11,.blk g11 #[.slice Ao es.length co] 83,.blk g10 #[vI 0] 27,.blk g9 #[vI 0] 3,.blk g8 #[.slice none 0 0] 83,.blk g6 #[vI m] 3,.blk g4 b.cells 110])) rfl kr ?_ ?_ ?_
 ·
  clear Z HM;intro lp BB rec w1 hrec HM
  have hy:Ub w lp cpu (fun bk rest F=>∃(es:List Ev) (iY:Nat) (Ao:Option Addr) (co:Nat),(qj cpu m b none l=dL es iY (qj cpu (m-es.length) bk es.getLast? rest))∧(es.length<m)∧(iY+rest.length≤l.length)∧(es.length+rest.length≤l.length)∧(es.length≤co)∧F=(.obj lp (.loop (rec .ready none)):: .obj BB (.deferred (some [])):: [.blk g12 #[vI iY] 3,.row (.slice Ao es.length co) es.length (es.flatMap aN) 73 11,.blk g11 #[.slice Ao es.length co] 83,.blk g10 #[vI 0] 27,.blk g9 #[vI 0] 3,.blk g8 #[.slice none 0 0] 83,.blk g6 #[vI m] 3,.blk g4 b.cells 110])) (fun F=>(∃(er:Nat),(qj cpu m b none l=([],0,er))∧F=(.obj lp (.loop (rec .done (some .ret))):: .obj BB (.deferred (some [])):: [.blk g10 #[vI er] 27,.blk g9 #[vI 0] 3,.blk g8 #[.slice none 0 0] 83,.blk g6 #[vI m] 3,.blk g4 b.cells 110]))∨(∃(es:List Ev) (iY:Nat) (Ao:Option Addr) (co:Nat),(qj cpu m b none l=(es,iY,0))∧(es.length≤co)∧F=(.obj lp (.loop (rec .done (some (.exit 0)))):: .obj BB (.deferred (some [])):: [.blk g12 #[vI iY] 3,.row (.slice Ao es.length co) es.length (es.flatMap aN) 73 11,.blk g11 #[.slice Ao es.length co] 83,.blk g10 #[vI 0] 27,.blk g9 #[vI 0] 3,.blk g8 #[.slice none 0 0] 83,.blk g6 #[vI m] 3,.blk g4 b.cells 110]))):=by
   rintro bk rest F fr w3 e mm er ⟨es,iY,Ao,co,hgo,hem,hal,hel,hco,rfl⟩ hq HM
   have ac8:es.length≤1000000000000:=by unfold Mt at hlim;omega
   have htl:=IE bk cpu rest
   rw [hq] at htl
   dsimp only at htl
   obtain ⟨q,qK⟩:∃q,es.getD (es.length-1) Ev.zero=q:=⟨_,rfl⟩
   replace HM:Mem w w3 (.obj lp (.loop (rec .ready none)):: .obj BB (.deferred (some [])):: .blk g12 #[vI iY] 3:: .row (.slice Ao es.length co) es.length (es.flatMap aN) 73 11:: .blk g11 #[.slice Ao es.length co] 83:: .blk g10 #[vI 0] 27:: .blk g9 #[vI 0] 3:: .blk g8 #[.slice none 0 0] 83:: .blk g6 #[vI m] 3:: .blk g4 b.cells 110::fr):=HM
   refine Ma (v1:= .agg #[.int .i64 e.seq,.int .i64 e.time,.int .u8 (e.cpu:Int),.int .u8 (e.kind:Int),.int .i64 e.task,.int .i64 e.group,.int .i64 e.to,.int .i64 e.weight,.int .i64 e.ticks,.int .u64 (e.mask:Int),.int .i64 e.got,.int .i64 (mm:Int)]) (v2:=vI er) hrec HM de de fun a Z=>?_
   refine wpIn_seq ?_
   refine qp ?_
   refine Jb Z HM ((JA #[vI 0,vI 0,vB 0,vB 0,vI 0,vI 0,vI 0,vI 0,vI 0,vQ 0,vI 0,vI 0]) fun nD g13=>(JV q6d aZ) fun oO=>(Jq) fun a Z HM=>?_)
   refine qp ?_
   refine Jb Z HM ((Jp 1∘Jq) fun a Z HM=>?_)
   refine ⟨(.blk g13 #[.int .i64 e.seq,.int .i64 e.time,.int .u8 (e.cpu:Int),.int .u8 (e.kind:Int),.int .i64 e.task,.int .i64 e.group,.int .i64 e.to,.int .i64 e.weight,.int .i64 e.ticks,.int .u64 (e.mask:Int),.int .i64 e.got,.int .i64 (mm:Int)] 424:: .obj BB (.deferred (some [])):: .blk g12 #[vI iY] 3:: .row (.slice Ao es.length co) es.length (es.flatMap aN) 73 11:: .blk g11 #[.slice Ao es.length co] 83:: .blk g10 #[vI 0] 27:: .blk g9 #[vI 0] 3:: .blk g8 #[.slice none 0 0] 83:: .blk g6 #[vI m] 3:: .blk g4 b.cells 110::fr),HM.pt (fs':=(.obj lp (.loop (rec .ready none)):: .blk g13 #[.int .i64 e.seq,.int .i64 e.time,.int .u8 (e.cpu:Int),.int .u8 (e.kind:Int),.int .i64 e.task,.int .i64 e.group,.int .i64 e.to,.int .i64 e.weight,.int .i64 e.ticks,.int .u64 (e.mask:Int),.int .i64 e.got,.int .i64 (mm:Int)] 424:: .obj BB (.deferred (some [])):: .blk g12 #[vI iY] 3:: .row (.slice Ao es.length co) es.length (es.flatMap aN) 73 11:: .blk g11 #[.slice Ao es.length co] 83:: .blk g10 #[vI 0] 27:: .blk g9 #[vI 0] 3:: .blk g8 #[.slice none 0 0] 83:: .blk g6 #[vI m] 3:: .blk g4 b.cells 110::fr)) 11 [1,0,2,3,4,5,6,7,8,9,10],fun w4 HM=>?_⟩
   refine wpIn_block ?_
   refine wpIn_seq ?_
   refine wpIn_seq ?_
   refine qp ?_
   refine Jb Z HM ((Jp 2∘aR∘Jq) (Ju (fun jK=>?_) fun jK=>?_))
   ·
    intro a Z HM
    have hd29:=bne_iff_ne.1 jK
    refine Ej Z rfl ?_
    refine wpIn_seq ?_
    refine qp ?_
    refine Jb Z HM ((Jp 1∘JW SC aZ) fun ED=>(JW Iy aZ) fun EF=>(JW yM aZ) fun wZ=>(kg∘Jq) fun a Z HM=>?_)
    refine wpIn_ret ?_
    refine ⟨(.obj BB (.deferred (some [])):: .blk g10 #[vI er] 27:: .blk g9 #[vI 0] 3:: .blk g8 #[.slice none 0 0] 83:: .blk g6 #[vI m] 3:: .blk g4 b.cells 110::fr),HM.pt (fs':=(.obj lp (.loop (rec .busy none)):: .obj BB (.deferred (some [])):: .blk g10 #[vI er] 27:: .blk g9 #[vI 0] 3:: .blk g8 #[.slice none 0 0] 83:: .blk g6 #[vI m] 3:: .blk g4 b.cells 110::fr)) 11 [0,2,6,7,8,9,10],fun w5 HM=>?_⟩
    exact ⟨(.obj lp (.loop (rec .done (some .ret))):: .obj BB (.deferred (some [])):: .blk g10 #[vI er] 27:: .blk g9 #[vI 0] 3:: .blk g8 #[.slice none 0 0] 83:: .blk g6 #[vI m] 3:: .blk g4 b.cells 110:: []),HM,.inr ⟨rfl,.inl ⟨er,q6h hgo hem hq om,rfl⟩⟩⟩
   intro a Z HM
   have hd29:=bne_eq_false_iff_eq.1 jK
   have he0:er=0:=by omega
   have hq0:=hq
   rw [he0] at hq0
   have hmm:=htl.2 he0
   refine El Z rfl ?_
   refine wpIn_skip ?_
   refine wpIn_seq ?_
   refine qwh (fun aS wS=>Fr aS 62 [] [(46,.bool (decide (es.length≠0∧e.seq=q.seq))),(29,.bool false),(14,vI er),(13,vP g13 0),(27,vI er),(26,.agg #[.int .i64 e.seq,.int .i64 e.time,.int .u8 (e.cpu:Int),.int .u8 (e.kind:Int),.int .i64 e.task,.int .i64 e.group,.int .i64 e.to,.int .i64 e.weight,.int .i64 e.ticks,.int .u64 (e.mask:Int),.int .i64 e.got,.int .i64 (mm:Int)]),(25,.func (.func 310) #[] #[vP gb 0,vP gc 0,vP gy 0]),(12,vP g12 0),(11,vP g11 0),(21,.bool false),(19,.bool false),(16,.bool false),(10,vP g10 0),(9,vP g9 0),(8,vP g8 0),(6,vP g6 0),(4,vP g4 0)]∧Mem w wS (.obj lp (.loop (rec .busy none)):: .blk g13 #[.int .i64 e.seq,.int .i64 e.time,.int .u8 (e.cpu:Int),.int .u8 (e.kind:Int),.int .i64 e.task,.int .i64 e.group,.int .i64 e.to,.int .i64 e.weight,.int .i64 e.ticks,.int .u64 (e.mask:Int),.int .i64 e.got,.int .i64 (mm:Int)] 424:: .obj BB (.deferred (some [])):: .blk g12 #[vI iY] 3:: .row (.slice Ao es.length co) es.length (es.flatMap aN) 73 11:: .blk g11 #[.slice Ao es.length co] 83:: .blk g10 #[vI 0] 27:: .blk g9 #[vI 0] 3:: .blk g8 #[.slice none 0 0] 83:: .blk g6 #[vI m] 3:: .blk g4 b.cells 110::fr)) ?_ ?_
   ·
    refine SL HM (.obj lp (.loop (rec .busy none)):: .blk g13 #[.int .i64 e.seq,.int .i64 e.time,.int .u8 (e.cpu:Int),.int .u8 (e.kind:Int),.int .i64 e.task,.int .i64 e.group,.int .i64 e.to,.int .i64 e.weight,.int .i64 e.ticks,.int .u64 (e.mask:Int),.int .i64 e.got,.int .i64 (mm:Int)] 424:: .obj BB (.deferred (some [])):: .blk g12 #[vI iY] 3:: .row (.slice Ao es.length co) es.length (es.flatMap aN) 73 11:: .blk g11 #[.slice Ao es.length co] 83:: .blk g10 #[vI 0] 27:: .blk g9 #[vI 0] 3:: .blk g8 #[.slice none 0 0] 83:: .blk g6 #[vI m] 3:: .blk g4 b.cells 110::fr) 11 [0,1,2,3,4,5,6,7,8,9,10] [] fun HM HS=>?_
    refine jA Z HS 0 5 fun a Z=>?_
    refine ru Z HS 1 fun a Z=>?_
    refine ap Z (fun _=>HS) [2,3] (bf 16 [0,1,2,3]) [(34,.bool (decide ((es.length:Int)>(0:Int))))] fun a Z=>?_
    rcases Z.tf 34 rfl with ⟨iL,Z⟩|⟨iL,Z⟩
    ·
     have hd34:=of_decide_eq_true iL
     refine ap Z (fun _=>HS) [4,5] (bf 16 [0,1,2,3,4,5]) [(36,vP g13 0)] fun a Z=>?_
     refine jA Z HS 6 1 (v:=vI e.seq) fun a Z=>?_
     refine jA Z HS 7 5 fun a Z=>?_
     refine jA Z HS 8 5 fun a Z=>?_
     refine ru Z HS 9 fun a Z=>?_
     refine ze Z (fun _=>HS) (i:=10) rfl rfl (d:=41) rfl de kr (fun _ _ _ h=>h) (v:=vI (IntKind.i64.wrap ((es.length:Int)-1))) (fun _=>Yl.pure kr) fun a Z=>?_
     replace Z:=Z.sp 41 (vI (es.length-1:Nat)) rfl (IK om om)
     revert HM;revert a;repeat (first|clear Z|clear HM)
     intro a Z HM
     obtain ⟨MN,rfl⟩:=zb (HM.own (i:=4) rfl) (Nat.lt_of_le_of_lt (Nat.zero_le _) (show es.length-1<es.length from by omega))
     refine cB Z HS 11 rfl (v:=vP MN ((es.length-1)*11)) (Yl.j6 MN (es.length-1) 11 rfl rfl rfl) fun a Z=>?_
     refine ap Z (fun _=>HS) [12] (bt 16 [13,14,15]) [(43,vP MN ((es.length-1)*11))] fun a Z=>?_
     refine cB Z HS 13 rfl (v:=vI ((es.getD (es.length-1) Ev.zero).seq)) (Yl.qn rfl rfl kr (fun _ h=>(by have:=h.uz qv (i:=4) rfl (k:=(es.length-1)) (off:=0) (x:=(es.getD (es.length-1) Ev.zero)) ((getD_at Ev.zero (k:=es.length-1) om)) rfl;simpa using this))) fun a Z=>?_
     replace Z:=Z.sp 44 (vI q.seq) rfl (by rw [qK])
     refine ap Z (fun _=>HS) [14,15] (bt 16 []) [(46,.bool ((e.seq:Int)==(q.seq:Int)))] fun a Z=>?_
     refine qd kr ?_
     have Z:=Z.sp 46 (.bool (decide (es.length≠0∧e.seq=q.seq))) rfl (oN (by simp only [decide_eq_true_eq,beq_iff_eq];first|omega|exact iff_of_true trivial om|exact iff_of_false id om|exact iff_of_false de om))
     exact ⟨Z.sub kr,HM.pt 11 [0,1,2,3,4,5,6,7,8,9,10]⟩
    have hd34:=of_decide_eq_false iL
    refine ap Z (fun _=>HS) [4,5,6,7,8,9,10,11,12,13,14,15] (bt 16 []) [(46,.bool false)] fun a Z=>?_
    refine qd kr ?_
    have Z:=Z.sp 46 (.bool (decide (es.length≠0∧e.seq=q.seq))) rfl (oN (by simp only [decide_eq_true_eq,beq_iff_eq];first|omega|exact iff_of_true trivial om|exact iff_of_false id om|exact iff_of_false de om))
    exact ⟨Z.sub kr,HM.pt 11 [0,1,2,3,4,5,6,7,8,9,10]⟩
   clear Z HM;rintro a Cy ⟨Z,HM⟩
   refine Jb Z HM (Ju (fun lK=>?_) fun lK=>?_)
   ·
    intro a Z HM
    have nN:=of_decide_eq_true lK
    have Cz:=of_decide_eq_true lK
    refine Ej Z rfl ?_
    refine wpIn_seq ?_
    refine qp ?_
    refine Jb Z HM ((JW SC aZ) fun Ue=>(JW Iy aZ) fun iM=>(JW yM aZ) fun Ez=>(Jq) fun a Z HM=>?_)
    refine wpIn_ret ?_
    refine ⟨(.obj BB (.deferred (some [])):: .blk g10 #[vI 71] 27:: .blk g9 #[vI 0] 3:: .blk g8 #[.slice none 0 0] 83:: .blk g6 #[vI m] 3:: .blk g4 b.cells 110::fr),HM.pt (fs':=(.obj lp (.loop (rec .busy none)):: .obj BB (.deferred (some [])):: .blk g10 #[vI 71] 27:: .blk g9 #[vI 0] 3:: .blk g8 #[.slice none 0 0] 83:: .blk g6 #[vI m] 3:: .blk g4 b.cells 110::fr)) 11 [0,2,6,7,8,9,10],fun w5 HM=>?_⟩
    exact ⟨(.obj lp (.loop (rec .done (some .ret))):: .obj BB (.deferred (some [])):: .blk g10 #[vI 71] 27:: .blk g9 #[vI 0] 3:: .blk g8 #[.slice none 0 0] 83:: .blk g6 #[vI m] 3:: .blk g4 b.cells 110:: []),HM,.inr ⟨rfl,.inl ⟨71,q4o hgo hem hq0 Cz.1 qK Cz.2,rfl⟩⟩⟩
   intro a Z HM
   have nN:=of_decide_eq_false lK
   have Cz:es.length=0∨e.seq≠q.seq:=by have h:=of_decide_eq_false lK;by_cases h0:es.length=0;exact .inl h0;exact .inr fun h1=>h ⟨h0,h1⟩
   refine El Z rfl ?_
   refine wpIn_skip ?_
   refine wpIn_seq ?_
   refine qp ?_
   refine Jb Z HM ((Jc O5∘Jf 0∘Jy (v:= .agg #[vI e.seq,vI e.time,vB e.cpu,vB e.kind,vI e.task,vI e.group,vI e.to,vI e.weight,vI e.ticks,vQ e.mask,vI e.got]) (h:=by exact Yl.qg rfl rfl zi rfl (fun _ h=>h.sub (i:=1) rfl 0 rfl))∘JU oL #[vI e.seq,vI e.time,vB e.cpu,vB e.kind,vI e.task,vI e.group,vI e.to,vI e.weight,vI e.ticks,vQ e.mask,vI e.got]) fun IX Uf=>(JD (aN e) 5 (fun _ _=>Cn) oL (hr:=by exact fun HM=>HM.aU (i:=0) (n:=1) (size:=11) rfl rfl) (h1:=by exact zf e)) fun IV jH c51 jI=>(JW yM aZ) fun Ug=>(Ee∘Jq) fun a Z HM=>?_)
   have fV:(es.length+1)=(es++[e]).length:=by rw [List.length_append];rfl
   replace HM:=HM.aV (i:=5) (ys:=(es++[e]).flatMap aN) rfl fV (by rw [List.flatMap_append,List.flatMap_singleton])
   rw [fV] at jI
   replace HM:=HM.oK (i:=6) (ds:= #[.slice jH (es++[e]).length c51]) rfl (by rw [fV];try rfl)
   refine wpIn_seq ?_
   refine qp ?_
   refine Jb Z HM ((Jc O4∘Jg 11 O2∘Ja∘JW yL aZ) fun Uh=>(uV∘Jq) fun a Z HM=>?_)
   refine wpIn_seq ?_
   refine qp ?_
   refine Jb Z HM ((Jc O6∘Jl∘Jc O10∘Jp 1∘bT∘Jq) (Je (fun zH=>?_) fun zH=>?_))
   ·
    intro a Z HM
    refine Ej Z rfl ?_
    refine wpIn_exit ?_
    refine ⟨(.obj BB (.deferred (some [])):: .blk g12 #[vI (iY+mm:Nat)] 3:: .row (.slice jH ((es++[e]).length) c51) ((es++[e]).length) ((es++[e]).flatMap aN) 73 11:: .blk g11 #[.slice jH ((es++[e]).length) c51] 83:: .blk g10 #[vI 0] 27:: .blk g9 #[vI 0] 3:: .blk g8 #[.slice none 0 0] 83:: .blk g6 #[vI m] 3:: .blk g4 b.cells 110::fr),HM.pt (fs':=(.obj lp (.loop (rec .busy none)):: .obj BB (.deferred (some [])):: .blk g12 #[vI (iY+mm:Nat)] 3:: .row (.slice jH ((es++[e]).length) c51) ((es++[e]).length) ((es++[e]).flatMap aN) 73 11:: .blk g11 #[.slice jH ((es++[e]).length) c51] 83:: .blk g10 #[vI 0] 27:: .blk g9 #[vI 0] 3:: .blk g8 #[.slice none 0 0] 83:: .blk g6 #[vI m] 3:: .blk g4 b.cells 110::fr)) 12 [1,3,4,5,6,7,8,9,10,11],fun w5 HM=>?_⟩
    exact ⟨(.obj lp (.loop (rec .done (some (.exit 0)))):: .obj BB (.deferred (some [])):: .blk g12 #[vI (iY+mm:Nat)] 3:: .row (.slice jH ((es++[e]).length) c51) ((es++[e]).length) ((es++[e]).flatMap aN) 73 11:: .blk g11 #[.slice jH ((es++[e]).length) c51] 83:: .blk g10 #[vI 0] 27:: .blk g9 #[vI 0] 3:: .blk g8 #[.slice none 0 0] 83:: .blk g6 #[vI m] 3:: .blk g4 b.cells 110:: []),HM,.inr ⟨rfl,.inr ⟨(es++[e]),(iY+mm),jH,c51,q6i (Ud hgo hem hq0 qK Cz) om,jI,rfl⟩⟩⟩
   intro a Z HM
   refine El Z rfl ?_
   refine wpIn_skip ?_
   refine ⟨(.obj BB (.deferred (some [])):: .blk g12 #[vI (iY+mm:Nat)] 3:: .row (.slice jH ((es++[e]).length) c51) ((es++[e]).length) ((es++[e]).flatMap aN) 73 11:: .blk g11 #[.slice jH ((es++[e]).length) c51] 83:: .blk g10 #[vI 0] 27:: .blk g9 #[vI 0] 3:: .blk g8 #[.slice none 0 0] 83:: .blk g6 #[vI m] 3:: .blk g4 b.cells 110::fr),HM.pt (fs':=(.obj lp (.loop (rec .busy none)):: .obj BB (.deferred (some [])):: .blk g12 #[vI (iY+mm:Nat)] 3:: .row (.slice jH ((es++[e]).length) c51) ((es++[e]).length) ((es++[e]).flatMap aN) 73 11:: .blk g11 #[.slice jH ((es++[e]).length) c51] 83:: .blk g10 #[vI 0] 27:: .blk g9 #[vI 0] 3:: .blk g8 #[.slice none 0 0] 83:: .blk g6 #[vI m] 3:: .blk g4 b.cells 110::fr)) 12 [1,3,4,5,6,7,8,9,10,11],fun w5 HM=>?_⟩
   exact ⟨(.obj lp (.loop (rec .ready none)):: .obj BB (.deferred (some [])):: .blk g12 #[vI (iY+mm:Nat)] 3:: .row (.slice jH ((es++[e]).length) c51) ((es++[e]).length) ((es++[e]).flatMap aN) 73 11:: .blk g11 #[.slice jH ((es++[e]).length) c51] 83:: .blk g10 #[vI 0] 27:: .blk g9 #[vI 0] 3:: .blk g8 #[.slice none 0 0] 83:: .blk g6 #[vI m] 3:: .blk g4 b.cells 110:: []),HM,.inl ⟨by omega,rfl,⟨(es++[e]),(iY+mm),jH,c51,Ud hgo hem hq0 qK Cz,by omega,by rw [List.length_drop];omega,by rw [List.length_append,List.length_drop];simp only [List.length_singleton];omega,jI,rfl⟩⟩⟩
  refine (qw7 w w1 gb gc gy lp B0 cpu bA b A c l _ _ _ hL hB hr hc hl hn hy ⟨[],0,none,0,(TB cpu m b none l).symm,by show 0<m;omega,by omega,by show 0+_≤_;omega,Nat.le_refl _,rfl⟩ (HM.pk [4,3,2,0,1,5,6,7,8,9,10,11,12])).mono ?_
  rintro r w2 ⟨v,rfl,F2,eP,(⟨er,hbad,rfl⟩|⟨es,iY,Ao,co,hgo,hco,rfl⟩)⟩
  ·exact ⟨v,rfl,.inr ⟨.ret,_,.inl ⟨rfl,er,hbad,rfl⟩,eP⟩⟩
  ·exact ⟨v,rfl,.inr ⟨(.exit 0),_,.inr ⟨rfl,es,iY,Ao,co,hgo,hco,rfl⟩,eP⟩⟩
 ·intro _ _ _ _ h;exact h.elim
 ·
  clear Z HM;rintro _ B a w6 _ (⟨rfl,er,hbad,rfl⟩|⟨rfl,es,iY,Ao,co,hgo,hco,rfl⟩) Z HM
  ·
   refine wp_ret ?_
   refine Cr Z HM (i:=0) rfl fun a w7 Z HM=>?_
   exact bE rfl Z (.cell1 (i:=3) Z HM rfl rfl kr rfl) (.cell1 (i:=2) Z HM rfl rfl kr rfl) (.cell1 (i:=1) Z HM rfl rfl kr rfl) (IZ ((MJ jJ).trans hbad) HM.below)
  ·
   refine wp_exit (wp_seq ?_)
   refine Jb Z HM ((Vs (.t (.t (.t (.t (.t (.t (.f .n))))))) [3,4]) fun ac9=>(Vc 0 O3∘Vc 1 O1) fun a Z HM HS=>?_)
   refine s_on Z 2 rfl (gu Z HM 6 fun Ui HM=>?_)
   refine aK (HM.pk [0,1,2,3,4,5,7,8]) (fun HS=>?_)
   refine s_on Z 3 rfl (gu Z HM 5 fun Uj HM=>?_)
   refine fZ kr ?_
   refine s_on Z 4 rfl (gu Z HM 4 fun Uk HM=>?_)
   refine fZ kr ?_
   refine qd kr ?_
   refine Jb Z HM ((JZ) fun a Z HM=>?_)
   refine Cr Z HM (i:=0) rfl fun a w7 Z HM=>?_
   exact bE rfl Z (.cell1 (i:=6) Z HM rfl rfl kr rfl) (.cell1 (i:=5) Z HM rfl rfl kr rfl) (.cell1 (i:=4) Z HM rfl rfl kr rfl) (q1h ((MJ jJ).trans hgo) (HM.own (i:=2) rfl) hco HM.below)
theorem q4p (b:Bs) (cpu:Nat) (bA:cpu<256) (A:Option Addr) (n c:Nat) (m:Int) (hm:aM m) (l:List Nat) (B:Nat) (w:World) (hL:Laid B w) (hB:B≤w.heap.size) (hr:Rd w w.heap.size 1 A n (l.map B8)) (hc:n≤c) (hl:∀b∈l,b<256) (hn:n≤100000000000) (hlim:Mt m l) {es:List Ev} {L er:Nat} (h:bq b cpu m l=(es,L,er)):
  Calls Tryz.prog 250 #[.agg b.cells,.int .u8 (cpu:Int),.int .i64 m,.slice A n c] w fun r w'=>(∃A c,r= .returned (.tuple #[.slice A es.length c,.int .i64 (L:Int),.int .i64 (er:Int)])∧w'.ownsRow w.heap.size 73 11 (.slice A es.length c) es.length (es.flatMap aN)∧es.length≤c)∧Below w.heap.size w w':=by
 obtain rfl:l.length=n:=by simpa using hr.len
 have k:=qty b cpu bA A c m hm l B w hL hB hr hc hl hn hlim
 rwa [h] at k
structure Bk where
 kind:Nat
 cpu:Nat
 lost:Int
 next:Int
 evs:List Ev
structure Bk.Ok (b:Bk):Prop where
 kind:b.kind<256
 cpu:b.cpu<256
 lost:aM b.lost
 next:aM b.next
 evs:∀e∈b.evs,e.Ok
def Bk.zero:Bk:=⟨0,0,0,0,[]⟩
def Bk.zI (b:Bk):Bool:=match b.evs with
 |[]=>decide (0<b.lost)
 |e::_=>decide (e.cpu=b.cpu)
def Bk.qc6 (b:Bk):Bool:=decide ((bL b.evs).2=0∧b.cpu<64∧0≤b.lost∧b.lost≤281474976710656∧b.next=0∧b.zI=true)
def Bk.pO (b:Bk):Bool:=decide (1≤b.next∧b.next≤281474976710657∧b.cpu=0∧b.lost=0∧b.evs.length=0)
def Bk.fits (b:Bk):Bool:=if b.kind=1 then b.qc6 else if b.kind=2 then b.pO else false
def Bk.base (b:Bk):Bs:=(b.evs.headD Ev.zero).at
def Bk.body (b:Bk):List Nat:=
 if b.kind=2 then ak b.next.toNat
 else ak b.cpu++ak b.lost.toNat++ak b.evs.length++(if b.evs.length=0 then [] else ak b.base.seq.toNat++ak b.base.time.toNat++recs b.base b.evs)
def Bk.raw (b:Bk):List Nat:=mD (12+b.body.length)++[113,116,1,b.kind]++b.body
def Bk.err (b:Bk):Nat:=if b.fits=false then 107 else if 4096<12+b.body.length then 3 else 0
def Bk.out (b:Bk):List Nat:=if b.err=0 then bI b.raw else []
def aC (l:List Nat):Nat×Nat:=if l.length<4 then (0,100) else if dS l<13∨4096<dS l then (0,101) else if l.length<dS l then (0,100) else (dS l,0)
def aO (most:Nat) (l:List Nat):Bool:=decide ((av l).2.2=0∧(av l).1≤most)
def qa (l:List Nat):List Nat:=l.drop (av l).2.1
def au (most:Nat) (l:List Nat):Nat:=if most<(av l).1 then most else (av l).1
def pQ (l:List Nat):Option Bk:=
 if aO 281474976710657 l=true∧(qa l).length=0∧Bk.fits ⟨2,0,0,au 281474976710657 l,[]⟩=true then some ⟨2,0,0,au 281474976710657 l,[]⟩ else none
def zx (cpu lost:Nat) (l:List Nat) (q:List Ev×Nat×Nat):Option Bk:=
 if q.2.2=0∧(q.1.headD Ev.zero).seq=au 281474976710656 l∧(q.1.headD Ev.zero).time=au 281474976710656 (qa l)∧aO 281474976710656 l=true∧aO 281474976710656 (qa l)=true∧((qa (qa l)).drop q.2.1).length=0∧Bk.fits ⟨1,cpu,lost,0,q.1⟩=true then some ⟨1,cpu,lost,0,q.1⟩ else none
def oP (l:List Nat):Bool:=aO 63 l&&aO 281474976710656 (qa l)&&aO 4096 (qa (qa l))
def q6 (l:List Nat):Option Bk:=
 if oP l=true∧0<au 4096 (qa (qa l)) then
  zx (au 63 l) (au 281474976710656 (qa l)) (qa (qa (qa l)))
   (bq ⟨au 281474976710656 (qa (qa (qa l))),au 281474976710656 (qa (qa (qa (qa l))))⟩ (au 63 l) (au 4096 (qa (qa l))) (qa (qa (qa (qa (qa l))))))
 else if oP l=true∧(qa (qa (qa l))).length=0∧Bk.fits ⟨1,au 63 l,au 281474976710656 (qa l),0,[]⟩=true then some ⟨1,au 63 l,au 281474976710656 (qa l),0,[]⟩ else none
def qc2 (kind:Nat) (l:List Nat):Option Bk:=if kind=2 then pQ l else q6 l
def dn (l:List Nat):Option Bk×Nat:=
 if mE l=false then (none,102)
 else if ¬(l.getD 4 0=113∧l.getD 5 0=116) then (none,103)
 else if l.getD 6 0≠1 then (none,104)
 else if l.getD 7 0≠1∧l.getD 7 0≠2 then (none,105)
 else match qc2 (l.getD 7 0) ((l.take (l.length-4)).drop 8) with
  |none=>(none,106)
  |some b=>(some b,0)
def bg (l:List Nat):Bk×Nat×Nat:=
 if (aC l).2≠0 then (Bk.zero,0,(aC l).2)
 else match (dn (l.take (aC l).1)).1 with
  |some b=>(b,(aC l).1,0)
  |none=>(Bk.zero,0,(dn (l.take (aC l).1)).2)
theorem vk {most:Nat} {l:List Nat} (hl:∀x∈l,x<256) (h:aO most l=true):∃x m,av l=(x,m,0)∧au most l=x∧x≤most∧ak x=l.take m∧qa l=l.drop m∧ak x++qa l=l:=by
 unfold aO at h
 rw [decide_eq_true_eq] at h
 refine ⟨(av l).1,(av l).2.1,by rw [←h.1],by unfold au;rw [if_neg om],h.2,?_,rfl,?_⟩
 ·exact MP hl (by rw [←h.1])
 ·have:=MP hl (show av l=((av l).1,(av l).2.1,0) by rw [←h.1])
  rw [this]
  exact List.take_append_drop _ _
theorem zc {l:List Nat} (hl:∀x∈l,x<256):∀x∈qa l,x<256:=fun x hx=>hl x (List.mem_of_mem_drop hx)
theorem jL {most x:Nat} (rest:List Nat) (h:x≤most) (h64:x<18446744073709551616):aO most (ak x++rest)=true∧au most (ak x++rest)=x∧qa (ak x++rest)=rest:=by
 unfold aO au qa
 rw [MV rest h64]
 refine ⟨by simp [h],by simp;omega,by simp⟩
theorem I7 {b:Bk} (h:b.fits=true) (hk:b.kind=2):b.pO=true:=by unfold Bk.fits at h;rwa [if_neg om,if_pos hk] at h
theorem xg {b:Bk} (h:b.fits=true) (hk:b.kind≠2):b.kind=1∧b.qc6=true:=by
 unfold Bk.fits at h
 split at h
 ·rename_i h1;exact ⟨h1,h⟩
 ·cases h
theorem qoi (b:Bs) (e:Ev):1≤(qq b e).length:=by unfold qq;simp
theorem qxh (b:Bs) (e:Ev):(qq b e).length≤61:=by
 unfold qq pz
 have h1:=qe (e.seq-b.seq).toNat
 have h2:=qe (e.time-b.time).toNat
 have h3:=uO e.vals
 have h4:e.vals.length≤4:=by unfold Ev.vals;rw [List.length_map];exact qO _
 simp only [List.length_cons,List.flatMap_cons,List.length_append]
 omega
theorem EJ:∀(l:List Ev) (b:Bs),(recs b l).length≤61*l.length
 |[],_=>by simp [recs]
 |e::r,b=>by
  have h1:=qxh b e
  have h2:=EJ r e.at
  rw [recs,List.length_append,List.length_cons]
  omega
theorem Uy:∀(l:List Ev) (b:Bs),l.length≤(recs b l).length
 |[],_=>by simp
 |e::r,b=>by
  have:=Uy r e.at
  have:=qoi b e
  rw [recs,List.length_cons,List.length_append]
  omega
theorem q6l {b:Bk} (hk:b.kind≠2):b.evs.length≤b.body.length:=by
 unfold Bk.body
 rw [if_neg hk]
 split
 ·omega
 ·have:=Uy b.evs b.base
  simp only [List.length_append]
  omega
theorem MW {cpu : Nat} : ∀ (es : List Ev) (p : Option Ev) (b : Bs) (i : Nat), (∀ e ∈ es, e.Ok) → b.right = true → (∀ e ∈ es.head?, b.behind e = true ∧ e.cpu = cpu) → (∀ q, p = some q → b = q.at ∧ q.cpu = cpu) → (bW p i es).2 = 0 → Chain cpu p b es
 |[],_,_,_,_,_,_,_,_=>trivial
 | e :: r, p, b, i, hok, hb, hh, hp, h => by
  rw [bW] at h
  split at h
  ·rename_i h1;exact absurd h h1
  ·rename_i h1
   split at h
   ·cases h
   ·rename_i h2
    have hc:e.check=0:=by omega
    obtain ⟨g1,g2⟩:=hh e (by simp)
    refine ⟨⟨hb,hc,hok e (by simp),g1⟩,g2,?_,?_⟩
    ·intro q hq
     subst hq
     simp [Ev.after] at h2
     omega
    ·refine MW r (some e) e.at (i+1) (fun x hx=>hok x (by simp [hx])) (I6 hc) ?_ (fun q hq=>by injection hq with hq;subst hq;exact ⟨rfl,g2⟩) h
     intro x hx
     cases r with
     |nil=>cases hx
     | cons y r =>
      simp at hx
      subst hx
      rw [bW] at h
      split at h
      ·rename_i h3;exact absurd h h3
      ·split at h
       ·cases h
       ·rename_i h4
        simp [Ev.after] at h4
        refine ⟨?_,by omega⟩
        unfold Bs.behind Ev.at
        rw [decide_eq_true_eq]
        exact ⟨by show e.seq≤y.seq;omega,h4.2.2⟩
theorem Uz {l:List Ev} {e:Ev} (h:(bL l).2=0) (he:l.head?=some e):e.check=0:=by
 cases l with
 |nil=>cases he
 |cons x r=>
  injection he with he
  subst he
  unfold bL at h
  rw [bW] at h
  split at h
  ·rename_i h1;exact absurd h h1
  ·omega
theorem UA (e:Ev):e.at.behind e=true:=by unfold Bs.behind Ev.at;rw [decide_eq_true_eq];exact ⟨Int.le_refl _,Int.le_refl _⟩
structure zJ (b:Bk) (e:Ev) (r:List Ev):Prop where
 evs:b.evs=e::r
 cpu:e.cpu=b.cpu
 base:b.base=e.at
 check:e.check=0
 right:e.at.right=true
 chain:Chain b.cpu none e.at b.evs
theorem CB {b:Bk} (hok:b.Ok) (h:b.qc6=true) (hn:b.evs.length≠0):∃e r,zJ b e r:=by
 unfold Bk.qc6 at h
 rw [decide_eq_true_eq] at h
 obtain ⟨h1,h2,h3,h4,h5,h6⟩:=h
 cases hev:b.evs with
 |nil=>rw [hev] at hn;simp at hn
 |cons e r=>
  have hc:e.check=0:=Uz h1 (by rw [hev];rfl)
  have bA:e.cpu=b.cpu:=by unfold Bk.zI at h6;rw [hev] at h6;simpa using h6
  refine ⟨e,r,hev,bA,by unfold Bk.base;rw [hev];rfl,hc,I6 hc,?_⟩
  refine MW b.evs none e.at 0 hok.evs (I6 hc) ?_ (fun q hq=>by cases hq) h1
  intro x hx
  rw [hev] at hx
  simp at hx
  subst hx
  exact ⟨UA _,bA⟩
theorem UC {b:Bk} (hok:b.Ok) (h:b.qc6=true) (hn:b.evs.length≠0):qr b.base b.evs=0∧zd b.base b.evs=recs b.base b.evs:=by
 obtain ⟨e,r,g⟩:=CB hok h hn
 rw [g.base]
 obtain ⟨_,h1,h2⟩:=Uw g.right g.chain
 exact ⟨h1,h2⟩
theorem UD {e:Ev} (h:e.at.right=true):((e.seq.toNat:Nat):Int)=e.seq∧((e.time.toNat:Nat):Int)=e.time∧e.seq.toNat≤281474976710656∧e.time.toNat≤281474976710656:=by
 unfold Bs.right Ev.at at h
 rw [decide_eq_true_eq] at h
 obtain ⟨h1,h2,h3,h4⟩:=h
 have h1:1≤e.seq:=h1
 have h2:e.seq≤281474976710656:=h2
 have h3:0≤e.time:=h3
 have h4:e.time≤281474976710656:=h4
 omega
theorem UE {b:Bk} (h1:b.kind=1) (h2:b.next=0) (l:Nat) (hl:(l:Int)=b.lost):(⟨1,b.cpu,(l:Int),0,b.evs⟩:Bk)=b:=by
 cases b
 simp only at h1 h2 hl
 subst h1;subst h2;rw [hl]
theorem qt1 {b:Bk} (hok:b.Ok) (h:b.fits=true) (hn:b.evs.length≤4096):qc2 b.kind b.body=some b:=by
 unfold qc2
 split
 ·rename_i hk
  have hf:=h
  have h:=I7 h hk
  unfold Bk.pO at h
  rw [decide_eq_true_eq] at h
  obtain ⟨h1,h2,h3,h4,h5⟩:=h
  have hx:((b.next.toNat:Nat):Int)=b.next:=by omega
  have he:(⟨2,0,0,((b.next.toNat:Nat):Int),[]⟩:Bk)=b:=by
   rw [hx]
   cases b
   simp only at hk h3 h4 h5
   rw [List.length_eq_zero_iff] at h5
   subst hk;subst h3;subst h4;subst h5;rfl
  unfold Bk.body pQ
  rw [if_pos hk]
  obtain ⟨t1,t2,t3⟩:=jL (most:=281474976710657) (x:=b.next.toNat) [] om om
  rw [List.append_nil] at t1 t2 t3
  rw [t1,t2,t3,he,hf]
  simp
 ·rename_i hk
  obtain ⟨hk1,hE⟩:=xg h hk
  have hE':=hE
  unfold Bk.qc6 at hE'
  rw [decide_eq_true_eq] at hE'
  obtain ⟨h1,h2,h3,h4,h5,h6⟩:=hE'
  have rP:((b.lost.toNat:Nat):Int)=b.lost:=by omega
  have mI:=UE hk1 h5 b.lost.toNat rP
  unfold Bk.body q6
  rw [if_neg hk]
  simp only [List.append_assoc]
  generalize hR:(if b.evs.length=0 then [] else ak b.base.seq.toNat++(ak b.base.time.toNat++recs b.base b.evs))=R
  obtain ⟨a1,a2,a3⟩:=jL (most:=63) (x:=b.cpu) (ak b.lost.toNat++(ak b.evs.length++R)) om om
  obtain ⟨b1,b2,b3⟩:=jL (most:=281474976710656) (x:=b.lost.toNat) (ak b.evs.length++R) om om
  obtain ⟨c1,c2,c3⟩:=jL (most:=4096) (x:=b.evs.length) R hn om
  unfold oP
  rw [a3,b3,c3,a1,a2,b1,b2,c1,c2]
  by_cases h0:b.evs.length=0
  ·rw [if_pos h0] at hR
   subst hR
   rw [if_neg om,if_pos]
   ·rw [List.length_eq_zero_iff] at h0
    rw [h0] at mI
    rw [mI]
   ·refine ⟨rfl,rfl,?_⟩
    rw [List.length_eq_zero_iff] at h0
    rw [h0] at mI
    rw [mI];exact h
  ·rw [if_neg h0] at hR
   obtain ⟨e,r,g⟩:=CB hok hE h0
   obtain ⟨n1,n2,n3,n4⟩:=UD g.right
   rw [g.base] at hR
   subst hR
   obtain ⟨d1,d2,d3⟩:=jL (most:=281474976710656) (x:=e.at.seq.toNat) (ak e.at.time.toNat++recs e.at b.evs) n3 (by have:=n3;show e.seq.toNat<_;omega)
   obtain ⟨e1,e2,e3⟩:=jL (most:=281474976710656) (x:=e.at.time.toNat) (recs e.at b.evs) n4 (by have:=n4;show e.time.toNat<_;omega)
   have hb:(⟨((e.at.seq.toNat:Nat):Int),((e.at.time.toNat:Nat):Int)⟩:Bs)=e.at:=by
    show (⟨((e.seq.toNat:Nat):Int),((e.time.toNat:Nat):Int)⟩:Bs)=⟨e.seq,e.time⟩
    rw [n1,n2]
   have hq:=Ux g.right g.chain []
   rw [List.append_nil] at hq
   rw [if_pos ⟨rfl,by omega⟩]
   unfold zx
   rw [d3,d2,e2,e3,d1,e1,hb,hq,if_pos]
   ·rw [mI]
   ·refine ⟨rfl,?_,?_,rfl,rfl,by simp,by rw [mI];exact h⟩
    ·rw [g.evs];exact n1.symm
    ·rw [g.evs];exact n2.symm
theorem EK {x:Nat} (h:x≤281474976710657):aM (x:Int):=by unfold aM;omega
theorem UF {k:Nat} (hk:k=1∨k=2) {l:List Nat} (hl:∀x∈l,x<256) {b:Bk} (h:qc2 k l=some b):b.kind=k∧b.Ok∧b.fits=true∧b.body=l∧b.evs.length≤4096:=by
 unfold qc2 at h
 split at h
 ·rename_i hk2
  unfold pQ at h
  split at h
  ·rename_i hc
   obtain ⟨c1,c2,c3⟩:=hc
   obtain ⟨x,m,v1,v2,v3,v4,v5,v6⟩:=vk hl c1
   injection h with h
   subst h
   rw [v2] at c3⊢
   refine ⟨hk2.symm,⟨by show 2<256;decide,by show 0<256;decide,by unfold aM;simp,EK v3,by simp⟩,c3,?_,by simp⟩
   rw [List.length_eq_zero_iff] at c2
   rw [c2,List.append_nil] at v6
   unfold Bk.body
   rw [if_pos rfl]
   simpa using v6
  ·cases h
 ·rename_i hk2
  have hk1:k=1:=by omega
  unfold q6 at h
  split at h
  ·rename_i hc
   obtain ⟨c1,c2⟩:=hc
   unfold oP at c1
   simp only [Bool.and_eq_true] at c1
   obtain ⟨⟨c1,c3⟩,c4⟩:=c1
   obtain ⟨x1,m1,_,u1,u2,_,_,u3⟩:=vk hl c1
   have hl1:=zc hl
   obtain ⟨x2,m2,_,u4,u5,_,_,u6⟩:=vk hl1 c3
   have hl2:=zc hl1
   obtain ⟨x3,m3,_,u7,u8,_,_,u9⟩:=vk hl2 c4
   have hl3:=zc hl2
   rw [u1,u4,u7] at h
   rw [u7] at c2
   generalize qa (qa (qa l))=l3 at h u9 hl3
   unfold zx at h
   split at h
   ·rename_i hd
    obtain ⟨d1,d2,d3,d4,d5,d6,d7⟩:=hd
    obtain ⟨y1,_,_,w1,w2,_,_,w3⟩:=vk hl3 d4
    have hl4:=zc hl3
    obtain ⟨y2,_,_,w4,w5,_,_,w6⟩:=vk hl4 d5
    have hl5:=zc hl4
    rw [w1,w4] at h d1 d2 d3 d6 d7
    generalize qa (qa l3)=l5 at h w6 hl5 d1 d2 d3 d6 d7
    generalize hq:bq ⟨(y1:Int),(y2:Int)⟩ x1 (x3:Int) l5=q at h d1 d2 d3 d6 d7
    obtain ⟨es,u,er⟩:=q
    simp only at h d1 d2 d3 d6 d7
    subst d1
    injection h with h
    subst h
    obtain ⟨r1,r2,r3,r4,r5⟩:=I5 om hl5 hq
    have hes:es.length=x3:=by omega
    refine ⟨hk1.symm,⟨by show 1<256;decide,by show x1<256;omega,EK (by show x2≤_;omega),by unfold aM;simp,fun e he=>(r5 e he).1⟩,d7,?_,by show es.length≤4096;omega⟩
    have hu:l5.take u=l5:=List.take_of_length_le (by rw [List.length_drop] at d6;omega)
    rw [hu] at r3
    have EL:recs ⟨(y1:Int),(y2:Int)⟩ es=l5:=by
     unfold zd at r3
     rw [if_pos r2] at r3
     exact r3
    unfold Bk.body
    rw [if_neg (by show ¬1=2;omega)]
    show ak x1++ak ((x2:Int)).toNat++ak es.length++(if es.length=0 then [] else ak (Bk.base ⟨1,x1,x2,0,es⟩).seq.toNat++ak (Bk.base ⟨1,x1,x2,0,es⟩).time.toNat++recs (Bk.base ⟨1,x1,x2,0,es⟩) es)=l
    have hbase:Bk.base ⟨1,x1,x2,0,es⟩=⟨(y1:Int),(y2:Int)⟩:=by
     unfold Bk.base Ev.at
     show (⟨(es.headD Ev.zero).seq,(es.headD Ev.zero).time⟩:Bs)=_
     rw [d2,d3]
    rw [hbase,EL,if_neg om,hes,Int.toNat_natCast,←u3,←u6,←u9,←w3,←w6]
    simp
   ·cases h
  ·split at h
   ·rename_i hc0 hc
    obtain ⟨c1,c2,c3⟩:=hc
    have c0:¬0<au 4096 (qa (qa l)):=fun hh=>hc0 ⟨c1,hh⟩
    unfold oP at c1
    simp only [Bool.and_eq_true] at c1
    obtain ⟨⟨c1,c5⟩,c4⟩:=c1
    obtain ⟨x1,m1,_,u1,u2,_,_,u3⟩:=vk hl c1
    have hl1:=zc hl
    obtain ⟨x2,m2,_,u4,u5,_,_,u6⟩:=vk hl1 c5
    have hl2:=zc hl1
    obtain ⟨x3,m3,_,u7,u8,_,_,u9⟩:=vk hl2 c4
    rw [u1,u4] at h c3
    rw [u7] at c0
    obtain rfl:x3=0:=by omega
    injection h with h
    subst h
    refine ⟨hk1.symm,⟨by show 1<256;decide,by show x1<256;omega,EK (by show x2≤_;omega),by unfold aM;simp,by simp⟩,c3,?_,by simp⟩
    rw [List.length_eq_zero_iff] at c2
    rw [c2,List.append_nil] at u9
    unfold Bk.body
    rw [if_neg (by show ¬1=2;omega)]
    show ak x1++ak ((x2:Int)).toNat++ak 0++[]=l
    rw [Int.toNat_natCast,←u3,←u6,←u9]
    simp
   ·cases h
def ay:Nat→List Nat→List Nat×List Nat
 |0,l=>([],l)
 |k+1,l=>if (av l).2.2=0 then ((av l).1::(ay k (qa l)).1,(ay k (qa l)).2) else ([],l)
def looseEnd (l:List Nat):Bk:=⟨2,0,0,if (ay 1 l).1.length=1 then wrap64 ((ay 1 l).1.getD 0 0:Int) else 0,[]⟩
def nT (cpu n:Nat) (l:List Nat):List Ev:=
 if 0<n∧n≤4096∧(ay 2 l).1.length=2 then (bq ⟨wrap64 ((ay 2 l).1.getD 0 0:Int),wrap64 ((ay 2 l).1.getD 1 0:Int)⟩ cpu n (ay 2 l).2).1 else []
def Ae (k:Nat) (l:List Nat):Bk:=
 if (ay 3 l).1.length<3 then ⟨k,0,0,0,[]⟩
 else ⟨k,(ay 3 l).1.getD 0 0%256,wrap64 ((ay 3 l).1.getD 1 0:Int),0,nT ((ay 3 l).1.getD 0 0%256) ((ay 3 l).1.getD 2 0) (ay 3 l).2⟩
def loose (k:Nat) (l:List Nat):Bk:=if k=2 then looseEnd l else Ae k l
def dW (l:List Nat):Option Bk×Nat:=
 if mE l=false then (none,102)
 else if ¬(l.getD 4 0=113∧l.getD 5 0=116) then (none,103)
 else if l.getD 6 0≠1 then (none,104)
 else if l.getD 7 0≠1∧l.getD 7 0≠2 then (none,105)
 else if (loose (l.getD 7 0) ((l.take (l.length-4)).drop 8)).err≠0∨(loose (l.getD 7 0) ((l.take (l.length-4)).drop 8)).raw≠l.take (l.length-4) then (none,106)
 else (some (loose (l.getD 7 0) ((l.take (l.length-4)).drop 8)),0)
theorem CO {x k:Nat} (rest:List Nat) (h:x<18446744073709551616):ay (k+1) (ak x++rest)=(x::(ay k rest).1,(ay k rest).2):=by
 obtain ⟨_,_,h3⟩:=jL (most:=x) rest (Nat.le_refl _) h
 rw [ay,h3,MV rest h]
 simp
theorem CP:∀(k:Nat) (l:List Nat),(∀b∈l,b<256)→∀b∈(ay k l).2,b<256
 |0,l,hl=>hl
 |k+1,l,hl=>by
  rw [ay]
  split
  ·exact CP k _ (zc hl)
  ·exact hl
theorem J6 {x:Nat} (h:x≤281474976710657):wrap64 (x:Int)=(x:Int):=by unfold wrap64;omega
theorem qq5 {l r:List Nat} {x:Nat} (h:ay 1 l=([x],r)):looseEnd l=⟨2,0,0,wrap64 (x:Int),[]⟩:=by unfold looseEnd;rw [h];simp
theorem qq6 {k a b c:Nat} {l r:List Nat} (h:ay 3 l=([a,b,c],r)):Ae k l=⟨k,a%256,wrap64 (b:Int),0,nT (a%256) c r⟩:=by unfold Ae;rw [h];simp
theorem qq7 {cpu n x y:Nat} {l r:List Nat} (h:ay 2 l=([x,y],r)) (h1:0<n) (h2:n≤4096):nT cpu n l=(bq ⟨wrap64 (x:Int),wrap64 (y:Int)⟩ cpu n r).1:=by unfold nT;rw [h,if_pos ⟨h1,h2,rfl⟩];simp
theorem qua {b:Bk} (hok:b.Ok) (h:b.fits=true) (hn:b.evs.length≤4096):loose b.kind b.body=b:=by
 unfold loose
 split
 ·rename_i hk
  have h:=I7 h hk
  unfold Bk.pO at h
  rw [decide_eq_true_eq] at h
  obtain ⟨h1,h2,h3,h4,h5⟩:=h
  have hx:((b.next.toNat:Nat):Int)=b.next:=by omega
  unfold Bk.body
  rw [if_pos hk]
  have hq:=CO (x:=b.next.toNat) (k:=0) [] om
  rw [List.append_nil] at hq
  rw [qq5 hq,J6 om,hx]
  cases b
  simp only at hk h3 h4 h5
  rw [List.length_eq_zero_iff] at h5
  subst hk;subst h3;subst h4;subst h5;rfl
 ·rename_i hk
  obtain ⟨hk1,hE⟩:=xg h hk
  have hE':=hE
  unfold Bk.qc6 at hE'
  rw [decide_eq_true_eq] at hE'
  obtain ⟨h1,h2,h3,h4,h5,h6⟩:=hE'
  have rP:((b.lost.toNat:Nat):Int)=b.lost:=by omega
  have mI:=UE hk1 h5 b.lost.toNat rP
  unfold Bk.body
  rw [if_neg hk]
  simp only [List.append_assoc]
  generalize hR:(if b.evs.length=0 then [] else ak b.base.seq.toNat++(ak b.base.time.toNat++recs b.base b.evs))=R
  have hq:ay 3 (ak b.cpu++(ak b.lost.toNat++(ak b.evs.length++R)))=([b.cpu,b.lost.toNat,b.evs.length],R):=by
   rw [CO _ om,CO _ om,CO _ om]
   rfl
  rw [qq6 hq,Nat.mod_eq_of_lt om,J6 om]
  have hrow:nT b.cpu b.evs.length R=b.evs:=by
   by_cases h0:b.evs.length=0
   ·unfold nT
    rw [if_neg om]
    exact (List.length_eq_zero_iff.1 h0).symm
   ·rw [if_neg h0] at hR
    obtain ⟨e,r,g⟩:=CB hok hE h0
    obtain ⟨n1,n2,n3,n4⟩:=UD g.right
    rw [g.base] at hR
    subst hR
    have hq2:ay 2 (ak e.at.seq.toNat++(ak e.at.time.toNat++recs e.at b.evs))=([e.at.seq.toNat,e.at.time.toNat],recs e.at b.evs):=by
     rw [CO _ (by have:=n3;show e.seq.toNat<_;omega),CO _ (by have:=n4;show e.time.toNat<_;omega)]
     rfl
    rw [qq7 hq2 om hn,J6 (x:=e.at.seq.toNat) (show e.seq.toNat≤_ by omega),J6 (x:=e.at.time.toNat) (show e.time.toNat≤_ by omega)]
    rw [show ((e.at.seq.toNat:Nat):Int)=e.seq from n1,show ((e.at.time.toNat:Nat):Int)=e.time from n2]
    have hq3:=Ux g.right g.chain []
    rw [List.append_nil] at hq3
    exact congrArg (·.1) hq3
  rw [hrow,hk1]
  exact mI
theorem Vu (x:Int):aM (wrap64 x):=by unfold wrap64 aM;omega
theorem q1z {b:Bs} {cpu:Nat} {m:Int} {l:List Nat} (bA:cpu<256) (hl:∀x∈l,x<256):∀e∈(bq b cpu m l).1,e.Ok:=by
 intro e he
 by_cases h:(bq b cpu m l).2.2=0
 ·obtain ⟨_,_,_,_,r5⟩:=I5 bA hl (show bq b cpu m l=((bq b cpu m l).1,(bq b cpu m l).2.1,0) by rw [←h])
  exact (r5 e he).1
 ·rw [(qxc h).1] at he
  cases he
theorem Nv {k:Nat} (hk:k=1∨k=2) {l:List Nat} (hl:∀x∈l,x<256):(loose k l).Ok∧(loose k l).kind=k:=by
 have h0:aM 0:=by unfold aM;omega
 unfold loose
 split
 ·rename_i h2
  refine ⟨⟨by show 2<256;decide,by show 0<256;decide,h0,?_,by intro e he;cases he⟩,h2.symm⟩
  unfold looseEnd
  dsimp only
  split
  ·exact Vu _
  ·exact h0
 ·unfold Ae
  split
  ·exact ⟨⟨by show k<256;omega,by show 0<256;decide,h0,h0,by intro e he;cases he⟩,rfl⟩
  ·refine ⟨⟨by show k<256;omega,Nat.mod_lt _ de,Vu _,h0,?_⟩,rfl⟩
   show ∀e∈nT _ _ _,e.Ok
   intro e he
   unfold nT at he
   split at he
   ·exact q1z (Nat.mod_lt _ de) (CP 2 _ (CP 3 _ hl)) e he
   ·cases he
theorem take8:∀{l:List Nat} {n:Nat},8≤n→n≤l.length→l.take n=l.take 4++[l.getD 4 0,l.getD 5 0,l.getD 6 0,l.getD 7 0]++(l.take n).drop 8
 |a::b::c::d::e::f::g::h::r,n,h1,h2=>by
  obtain ⟨m,rfl⟩:∃m,n=m+8:=⟨n-8,by omega⟩
  simp
 |[],_,_,h=>by simp at h;omega
 |[_],_,_,h=>by simp at h;omega
 |[_,_],_,_,h=>by simp at h;omega
 |[_,_,_],_,_,h=>by simp at h;omega
 |[_,_,_,_],_,_,h=>by simp at h;omega
 |[_,_,_,_,_],_,_,h=>by simp at h;omega
 |[_,_,_,_,_,_],_,_,h=>by simp at h;omega
 |[_,_,_,_,_,_,_],_,_,h=>by simp at h;omega
theorem q10 (b:Bk):b.raw.drop 8=b.body:=by unfold Bk.raw;rfl
theorem Vv {l:List Nat} (hl:∀x∈l,x<256) (hn:dS l=l.length) (IB:13≤l.length) {b:Bk} (h4:l.getD 4 0=113) (h5:l.getD 5 0=116) (h6:l.getD 6 0=1) (h7:l.getD 7 0=b.kind) (hb:b.body=(l.take (l.length-4)).drop 8):b.raw=l.take (l.length-4):=by
 rw [take8 om om,←hb,h4,h5,h6,h7,←Tq hl om,hn]
 unfold Bk.raw
 have:b.body.length=l.length-12:=by rw [hb,List.length_drop,List.length_take];omega
 rw [show 12+b.body.length=l.length by omega]
theorem qub {l : List Nat} (hl : ∀ x ∈ l, x < 256) (hn : dS l = l.length) (IB : 13 ≤ l.length) (Vz : l.length ≤ 4096) : dW l = dn l := by
 unfold dW dn
 split
 ·rfl
 ·split
  ·rfl
  ·rename_i h45
   split
   ·rfl
   ·rename_i h6
    split
    ·rfl
    ·rename_i h7
     have hk:l.getD 7 0=1∨l.getD 7 0=2:=by omega
     have h45:l.getD 4 0=113∧l.getD 5 0=116:=Decidable.of_not_not h45
     have h6:l.getD 6 0=1:=by omega
     have hbl:∀x∈(l.take (l.length-4)).drop 8,x<256:=fun x hx=>hl x (List.mem_of_mem_take (List.mem_of_mem_drop hx))
     have hlen:((l.take (l.length-4)).drop 8).length=l.length-12:=by rw [List.length_drop,List.length_take];omega
     cases hp:qc2 (l.getD 7 0) ((l.take (l.length-4)).drop 8) with
     | some b =>
      obtain ⟨b1,b2,b3,b4,b5⟩:=UF hk hbl hp
      have rZ:=qua b2 b3 b5
      rw [b1,b4] at rZ
      rw [rZ]
      have mK:b.err=0:=by
       unfold Bk.err
       rw [if_neg (by simp [b3]),if_neg (by rw [b4,hlen];omega)]
      rw [if_neg]
      intro hh
      rcases hh with hh|hh
      ·exact hh mK
      ·exact hh (Vv hl hn IB h45.1 h45.2 h6 b1.symm b4)
     | none =>
      rw [if_pos]
      obtain ⟨l1,l2⟩:=Nv hk hbl
      generalize hb:loose (l.getD 7 0) ((l.take (l.length-4)).drop 8)=b at l1 l2
      by_cases he:b.err=0
      ·right
       intro hraw
       have hbody:b.body=(l.take (l.length-4)).drop 8:=by rw [←q10,hraw]
       have hfit:b.fits=true:=by
        unfold Bk.err at he
        split at he
        ·cases he
        ·rename_i hf;simpa using hf
       have h8:b.evs.length≤4096:=by
        by_cases hk2:b.kind=2
        ·have:=I7 hfit hk2
         unfold Bk.pO at this
         rw [decide_eq_true_eq] at this
         omega
        ·have:=q6l hk2
         rw [hbody,hlen] at this
         omega
       have:=qt1 l1 hfit h8
       rw [l2,hbody,hp] at this
       cases this
      ·exact .inl he
def jR (l:List Nat):Bk×Nat×Nat:=
 if (aC l).2≠0 then (Bk.zero,0,(aC l).2)
 else match (dW (l.take (aC l).1)).1 with
  |some b=>(b,(aC l).1,0)
  |none=>(Bk.zero,0,(dW (l.take (aC l).1)).2)
theorem J7 {l:List Nat} (h:(aC l).2=0):dS l=(aC l).1∧13≤(aC l).1∧(aC l).1≤4096∧(aC l).1≤l.length:=by
 unfold aC at h⊢
 split at h
 ·cases h
 ·split at h
  ·cases h
  ·split at h
   ·cases h
   ·rename_i h1 h2 h3
    rw [if_neg h1,if_neg h2,if_neg h3]
    omega
theorem VB {l:List Nat} {n:Nat} (h:4≤n):dS (l.take n)=dS l:=by
 have:∀i,i<4→(l.take n).getD i 0=l.getD i 0:=fun i hi=>by
  rw [List.getD_eq_getElem?_getD,List.getD_eq_getElem?_getD,List.getElem?_take,if_pos om]
 unfold dS
 rw [this 0 om,this 1 om,this 2 om,this 3 om]
theorem Nw {l:List Nat} (hl:∀x∈l,x<256):jR l=bg l:=by
 unfold jR bg
 split
 ·rfl
 ·rename_i h
  obtain ⟨h1,h2,h3,h4⟩:=J7 (show (aC l).2=0 by omega)
  rw [qub (fun x hx=>hl x (List.mem_of_mem_take hx)) (by rw [VB om,List.length_take];omega) (by rw [List.length_take];omega) (by rw [List.length_take];omega)]<;>(generalize dn (l.take (aC l).1)=q;rcases q with ⟨_|b,e⟩<;>rfl)
def dV (xs:Array Value) (i:Nat):Int:=match xs[i]? with
 |some (.int _ n)=>n
 |_=>0
def MO (P : Program) (f : Field) (i : Nat) : Bool := f.name != "_" && (f.offset == i && (fT P f.type && match P.underlying f.type with
 |some (.int _)=>true
 |_=>false))
theorem Ul {P:Program} (d:Nat) (xs ys:Array Value):∀(fs:List Field) (i:Nat) (w:World),(∀j,j<fs.length→∃f k a b,fs[j]?=some f∧MO P f (i+j)=true∧xs[i+j]?=some (.int k a)∧ys[i+j]?=some (.int k b))→
  (Op.eqFields (d+1) xs ys fs).run P w= .ok ((List.range fs.length).all fun j=>dV xs (i+j)==dV ys (i+j)) w
 |[],i,w,_=>rfl
 | f :: fs, i, w, h => by
  obtain ⟨f',k,a,b,hf,hb,hx,hy⟩:=h 0 (by simp)
  simp only [List.getElem?_cons_zero,Option.some.injEq] at hf
  subst hf
  simp only [MO,Bool.and_eq_true,bne_iff_ne,beq_iff_eq,Nat.add_zero] at hb
  obtain ⟨h1,h2,h3,h4⟩:=hb
  rw [Nat.add_zero] at hx hy
  have ih:=Ul d xs ys fs (i+1) w (fun j hj=>by
   obtain ⟨f,k,a,b,hf,hb,hx,hy⟩:=h (j+1) (by simpa using hj)
   refine ⟨f,k,a,b,by simpa using hf,?_,?_,?_⟩
   ·rw [show i+1+j=i+(j+1) by omega];exact hb
   ·rw [show i+1+j=i+(j+1) by omega];exact hx
   ·rw [show i+1+j=i+(j+1) by omega];exact hy)
  have hu:∃k',P.underlying f.type=some (.int k'):=by
   split at h4
   ·rename_i k' hk;exact ⟨k',hk⟩
   ·cases h4
  obtain ⟨k',hu⟩:=hu
  have hxi:dV xs i=a:=by simp [dV,hx]
  have hyi:dV ys i=b:=by simp [dV,hy]
  have e:(List.range (f::fs).length).all (fun j=>dV xs (i+j)==dV ys (i+j))=((a==b)&& (List.range fs.length).all fun j=>dV xs (i+1+j)==dV ys (i+1+j)):=by
   rw [List.length_cons,List.range_succ_eq_map,List.all_cons,Nat.add_zero,hxi,hyi,List.all_map]
   congr 2
   funext j
   simp only [Function.comp_apply,Nat.succ_eq_add_one]
   rw [show i+(j+1)=i+1+j by omega]
  rw [e]
  unfold Op.eqFields
  rw [if_pos h1]
  simp only [Sem.run_bind,part,Io h3,Result.andThen_ok,Bool.false_eq_true,if_false,h2,hx,hy,Sem.run_pure,run_equalIn_int w d f.type k k' a b hu]
  cases hab:(a==b)
  ·simp
  ·simp [ih]
def EG (P:Program) (t:TypeId):Bool:= !P.stoodInHeld t&& (!P.eqGuardType P.depth t&& ((P.fieldsOf t).size==11&& ((List.range 11).all fun i=>match (P.fieldsOf t).toList[i]? with
 |some f=>MO P f i
 |none=>false)))
theorem qqx {P:Program} {t:TypeId} (h:(P.fieldsOf t).size=11):P.underlying t=some (.struct (P.fieldsOf t)):=by
 unfold Program.fieldsOf at h⊢
 split at h
 ·rename_i fs hu;rw [hu]
 ·cases h
theorem qw8 (e:Ev):∀i,i<11→∃k,e.cells[i]?=some (.int k (dV e.cells i))∧∀e':Ev,e'.cells[i]?=some (.int k (dV e'.cells i)):=by
 intro i hi
 have h:i=0∨i=1∨i=2∨i=3∨i=4∨i=5∨i=6∨i=7∨i=8∨i=9∨i=10:=by omega
 rcases h with rfl|rfl|rfl|rfl|rfl|rfl|rfl|rfl|rfl|rfl|rfl<;>exact ⟨_,rfl,fun _=>rfl⟩
instance Um:DecidableEq Ev:=fun ⟨a0,a1,a2,a3,a4,a5,a6,a7,a8,a9,I4⟩ ⟨b0,b1,b2,b3,b4,b5,b6,b7,b8,b9,b10⟩=>
 decidable_of_iff (a0=b0∧a1=b1∧a2=b2∧a3=b3∧a4=b4∧a5=b5∧a6=b6∧a7=b7∧a8=b8∧a9=b9∧I4=b10) (by rw [Ev.mk.injEq])
theorem q6j (x y:Ev):((List.range 11).all fun j=>dV x.cells (0+j)==dV y.cells (0+j))=decide (x=y):=by
 rw [Bool.eq_iff_iff,decide_eq_true_eq]
 constructor
 ·intro h
  have g:∀j,j<11→dV x.cells j=dV y.cells j:=fun j hj=>by
   have:=List.all_eq_true.1 h j (List.mem_range.2 hj)
   simpa using this
  obtain ⟨a0,a1,a2,a3,a4,a5,a6,a7,a8,a9,I4⟩:=x
  obtain ⟨b0,b1,b2,b3,b4,b5,b6,b7,b8,b9,b10⟩:=y
  have g0:a0=b0:=g 0 de
  have g1:a1=b1:=g 1 de
  have g2:(a2:Int)=b2:=g 2 de
  have g3:(a3:Int)=b3:=g 3 de
  have g4:a4=b4:=g 4 de
  have g5:a5=b5:=g 5 de
  have g6:a6=b6:=g 6 de
  have g7:a7=b7:=g 7 de
  have g8:a8=b8:=g 8 de
  have g9:(a9:Int)=b9:=g 9 de
  have g10:I4=b10:=g 10 de
  have g2':a2=b2:=by omega
  have g3':a3=b3:=by omega
  have g9':a9=b9:=by omega
  subst g0 g1 g2' g3' g4 g5 g6 g7 g8 g9' g10
  rfl
 ·rintro rfl
  simp
theorem q1j {P:Program} {t:TypeId} (ht:EG P t=true) (x y:Ev) (w:World):(Op.equal t (.agg x.cells) (.agg y.cells)).run P w= .ok (decide (x=y)) w:=by
 simp only [EG,Bool.and_eq_true,Bool.not_eq_true',beq_iff_eq] at ht
 obtain ⟨h1,_,h3,h4⟩:=ht
 unfold Op.equal
 rw [show Op.maxDepth=9998+1+1 from rfl,run_equalIn_struct w 9999 t _ _ (qqx h3) h1,Ul 9998 _ _ _ 0 w]
 ·rw [Array.length_toList,h3,q6j]
 ·intro j hj
  rw [Array.length_toList,h3] at hj
  have:=List.all_eq_true.1 h4 j (List.mem_range.2 hj)
  split at this
  ·rename_i f hf
   obtain ⟨k,hk,hk'⟩:=qw8 x j hj
   rw [Nat.zero_add]
   exact ⟨f,k,_,_,hf,this,hk,hk' y⟩
  ·cases this
theorem qtz {P:Program} {t:TypeId} (ht:EG P t=true) (op:BinOp) (x y:Operand) (a b:Array Value) (w:World):(eqGuard op t x y (.agg a) (.agg b)).run P w= .ok () w:=by
 simp only [EG,Bool.and_eq_true,Bool.not_eq_true',beq_iff_eq] at ht
 obtain ⟨_,h2,_⟩:=ht
 unfold eqGuard
 cases op<;>simp<;>simp [h2]
section
variable {P:Program} {S:World→Prop} {σ:List (Nat×Value)} {o:Oper}
theorem Yl.Un {t u:TypeId} {p q:Operand} {x y:Ev} (hop:o.op= .binOp .neq t p q u) (hx:look σ p=some (.agg x.cells)) (hy:look σ q=some (.agg y.cells)) (ht:EG P t=true):Yl P S σ o (.bool (!decide (x=y))):=fun a n D Z w hS=>by
 unfold execOp
 have e:(binOp .neq t (.agg x.cells) (.agg y.cells)).run P w= .ok (.bool (!decide (x=y))) w:=by
  show ((do Pure.pure (.bool (!(←Op.equal t (.agg x.cells) (.agg y.cells)))):Sem Value)).run P w=_
  simp [q1j ht]
 simp only [hop,Z.eval hx,Z.eval hy,Sem.run_bind,qtz ht,Result.andThen_ok,e,Sem.run_pure]
end
def Bk.cells (b:Bk) (A:Option Addr) (c:Nat):Array Value:= #[.int .u8 (b.kind:Int),.int .u8 (b.cpu:Int),.int .i64 b.lost,.int .i64 b.next,.slice A b.evs.length c]
theorem zy (b:Bk) (A:Option Addr) (c:Nat):∀v∈(b.cells A c).toList,v.oneCell'=true:=by intro v hv;simp [Bk.cells] at hv;rcases hv with rfl|rfl|rfl|rfl|rfl<;>rfl
theorem aA:SI Tryz.prog 85 5:=⟨by kernel_rfl,by kernel_rfl⟩
theorem EM:EI Tryz.prog 402 30 (.slice none 0 0) 1 24:=⟨by kernel_rfl,by kernel_rfl,rfl,by omega⟩
theorem xk:SI Tryz.prog 287 2:=⟨by kernel_rfl,by kernel_rfl⟩
structure aL (B:Nat) (w:World):Prop where
 laid:Laid B w
 halves:∀k,k<16→w.cell? ⟨1,k,none⟩=some (.int .u32 ((pI.getD k 0:Nat):Int))
 EN:1<B
 nO:w.cell? ⟨0,0,none⟩=some (.int .u8 113)
 nP:w.cell? ⟨0,1,none⟩=some (.int .u8 116)
 zK:0<B
theorem aL.l7 {B:Nat} {w w':World} (h:aL B w) (hk:∀p:Addr,p.block<B→w'.cell? p=w.cell? p):aL B w':=
 ⟨h.laid.l7 hk,fun k hk'=>(hk _ h.EN).trans (h.halves k hk'),h.EN,(hk _ h.zK).trans h.nO,(hk _ h.zK).trans h.nP,h.zK⟩
theorem aL.mem {B:Nat} {W w:World} {fs:List Fact} (h:aL B W) (hM:Mem W w fs) (hB:B≤W.heap.size):aL B w:=h.l7 fun _ hp=>hM.below.cell om
theorem aL.below {B B':Nat} {w w':World} (h:aL B w) (hb:Below B' w w') (hB:B≤B'):aL B w':=h.l7 fun p hp=>hb.cell om
theorem UG {B:Nat} {W w:World} {fs:List Fact} (h:aL B W) (hM:Mem W w fs) (hB:B≤W.heap.size) {k:Nat} (hk:k<16):w.cell? ⟨1,k*1,none⟩=some (.int .u32 ((pI.getD k 0:Nat):Int)):=by
 rw [Nat.mul_one];exact (h.mem hM hB).halves k hk
theorem q1p {B:Nat} {W w:World} {fs:List Fact} (h:aL B W) (hM:Mem W w fs) (hB:B≤W.heap.size):w.rangeAt 0 0 (#[Value.int .u8 113,.int .u8 116]:Array Value).toList:=fun j v hv=>by
 have h1:=(h.mem hM hB).nO
 have h2:=(h.mem hM hB).nP
 rcases j with _|_|j
 ·simp at hv;subst hv;exact h1
 ·simp at hv;subst hv;exact h2
 ·simp at hv
theorem UH {b:Bk} (h:b.evs.length≠0):b.zI=decide ((b.evs.getD 0 Ev.zero).cpu=b.cpu):=by
 unfold Bk.zI
 cases hb:b.evs with
 |nil=>rw [hb] at h;simp at h
 |cons e r=>rfl
theorem MX {b:Bk} (h:b.evs.length=0):b.zI=decide (0<b.lost):=by
 unfold Bk.zI
 rw [List.length_eq_zero_iff] at h
 rw [h]
theorem EO (b:Bk):b.base=⟨(b.evs.getD 0 Ev.zero).seq,(b.evs.getD 0 Ev.zero).time⟩:=by
 unfold Bk.base Ev.at
 cases b.evs<;>rfl
theorem q6m (k:Nat):k=1∨k=2∨(k≠1∧k≠2):=by omega
theorem MZ {b:Bk} (hok:b.Ok) (h:b.fits=true) (hk:b.kind≠2) (hn:b.evs.length≠0):0≤b.base.seq∧b.base.seq≤281474976710656∧0≤b.base.time∧b.base.time≤281474976710656:=by
 obtain ⟨e,r,g⟩:=CB hok (xg h hk).2 hn
 have:=g.right
 rw [←g.base] at this
 have h4:1≤b.base.seq∧b.base.seq≤281474976710656∧0≤b.base.time∧b.base.time≤281474976710656:=by simpa [Bs.right] using this
 omega
theorem M0 {b:Bk} (h:b.fits=true) (hk:b.kind≠2):b.kind=1∧0≤b.lost∧b.lost≤281474976710656∧b.cpu<64∧b.next=0:=by
 obtain ⟨h1,h2⟩:=xg h hk
 unfold Bk.qc6 at h2
 rw [decide_eq_true_eq] at h2
 omega
theorem M4 {b:Bk} (h:b.fits=true) (hk:b.kind=2):1≤b.next∧b.next≤281474976710657∧b.cpu=0∧b.lost=0∧b.evs.length=0:=by
 have h2:=I7 h hk
 unfold Bk.pO at h2
 rw [decide_eq_true_eq] at h2
 exact h2
end Go.Proofs.YtekiimhdnigmcaaGreatDoor
namespace Go.Proofs.YtekiimhdnigmcaaGreatDoor
open Go.RowKit Go.ChangeShapes Go.WideShapes
theorem q1q {W:World} {fuel:Nat} {cs:List Value} {zs:List Nat} {p:List MemPlace}
  (h:DataW.trod (fun _=>()) Tryz.prog W 0 (fun _=>true) false fuel 38 cs=some (.slice (zs.map fun z:Nat=> .lit (.int .i64 (z:Int))) [],p)):
  ∃A c,cs=[.slice A zs.length c]∧Rd W W.heap.size 1 A zs.length (zs.map bn):=by
 obtain ⟨a,cap,hcs,hl,hall⟩:=open_row (e:=3) kr kr h
 have hcell:∀i z,zs[i]?=some z→W.cell? (a.add i)=some (bn z):=by
  intro i z hz
  obtain ⟨v,n,q,hc,ht⟩:=hall i (.lit (.int .i64 (z:Int))) (by rw [List.getElem?_map,hz];rfl)
  obtain ⟨z',e1,e2,_⟩:=DataW.trod_int (k:= .i64) kr ht
  injection e1 with e1
  injection e2 with e2
  subst e1
  simp only [DataW.lit.injEq,Lit.int.injEq,true_and] at e2
  rw [hc,←e2]
  rfl
 refine ⟨some a,cap,by rw [hcs,List.length_map],by simp,fun hn=>⟨a,rfl,?_,?_⟩⟩
 ·cases zs with
  |nil=>simp at hn
  |cons z zs=>
   have:=World.block_lt_of_cell? W _ (hcell 0 z rfl)
   simpa [Addr.add] using this
 ·intro j u hu
  rw [List.getElem?_map] at hu
  cases hz:zs[j]? with
  |none=>simp [hz] at hu
  |some z=>rw [hz] at hu;cases hu;exact hcell j z hz
theorem qqz {W:World} (h:laidMetH Tryz.prog Rows.archiveOneRow.laid W):Laid W.heap.size W:=by
 rw [MakeChecks.laidMetH_plain _ _ _ kr] at h
 obtain ⟨g1, t1, cs1, f1, p1, hg1, ht1, hv1, hd1⟩ := Lib.laidMet.reads h (n := "quantum/event.fields") (d := Rows.laid_quantum_event_fields) (List.mem_cons_self ..)
 obtain ⟨g2, t2, cs2, f2, p2, hg2, ht2, hv2, hd2⟩ := Lib.laidMet.reads h (n := "quantum/event.uses") (d := Rows.laid_quantum_event_uses) (List.mem_cons_of_mem _ (List.mem_cons_self ..))
 have EP : Tryz.prog.globalNamed "quantum/event.fields" = some 3 := by kernel_rfl
 have ER : Tryz.prog.globalNamed "quantum/event.uses" = some 2 := by kernel_rfl
 obtain rfl:=Option.some.inj (EP.symm.trans hg1)
 obtain rfl:=Option.some.inj (ER.symm.trans hg2)
 have M5:(Tryz.prog.globals[3]?).map (·.type)=some 459:=by kernel_rfl
 have M6:(Tryz.prog.globals[2]?).map (·.type)=some 410:=by kernel_rfl
 obtain rfl:=Option.some.inj (M5.symm.trans ht1)
 obtain rfl:=Option.some.inj (M6.symm.trans ht2)
 have zL:Tryz.prog.cellsOf 9=1:=by kernel_rfl
 have zM:Tryz.prog.cellsOf 38=1:=by kernel_rfl
 have c1:∀i v,cs1.toList[i]?=some v→W.cell? ⟨3,i,none⟩=some v:=fun i v hv=>by
  rw [World.var?_cell EP hv1 i];simpa using hv
 have c2:∀i v,cs2.toList[i]?=some v→W.cell? ⟨2,i,none⟩=some v:=fun i v hv=>by
  rw [World.var?_cell ER hv2 i];simpa using hv
 have CF:∀(cs:List Value) (i:Nat) (v:Value),(cs.drop (i*1)).take 1=[v]→cs[i]?=some v:=by
  intro cs i v h
  have:=congrArg (·[0]?) h
  simpa [List.getElem?_take,List.getElem?_drop] using this
 have str:∀i,i<7→∃s:ByteArray,W.cell? ⟨3,i,none⟩=some (.string s):=by
  intro i hi
  obtain ⟨f',d,q,_,ht⟩:=Lib.array_elem (n:=7) (e:=9) kr hd1 i hi
  rw [zL] at ht
  obtain ⟨s,hs,_⟩:=DataW.trod_string kr ht
  exact ⟨s,c1 i _ (CF _ _ _ hs)⟩
 have row:∀k,k<11→∃A c,W.cell? ⟨2,k,none⟩=some (.slice A (aj k).length c)∧Rd W W.heap.size 1 A (aj k).length ((aj k).map bn):=by
  intro k hk
  obtain ⟨f',d,q,hd,ht⟩:=Lib.array_elem (n:=11) (e:=38) kr hd2 k hk
  rw [zM] at ht
  by_cases h0:k=0
  ·subst h0
   simp only [List.getElem?_cons_zero,Option.some.injEq] at hd
   subst hd
   rcases DataW.trod_slice (e:=3) kr ht with ⟨hc,_⟩|⟨a,len,cap,elems,rest,n,_,_,hx,_⟩
   ·exact ⟨none,0,c2 0 _ (CF _ _ _ hc),Rd.nil⟩
   ·simp at hx
  ·have hd':d= .slice ((aj k).map fun z:Nat=> .lit (.int .i64 (z:Int))) []:=by
    have hk':k=1∨k=2∨k=3∨k=4∨k=5∨k=6∨k=7∨k=8∨k=9∨k=10:=by omega
    rcases hk' with rfl|rfl|rfl|rfl|rfl|rfl|rfl|rfl|rfl|rfl<;>exact (Option.some.inj hd).symm
   subst hd'
   obtain ⟨A,c,hc,hr⟩:=q1q ht
   exact ⟨A,c,c2 k _ (CF _ _ _ hc),hr⟩
 refine ⟨row,?_,str,?_⟩
 ·obtain ⟨A,c,h1,_⟩:=row 0 om
  exact World.block_lt_of_cell? W _ h1
 ·obtain ⟨s,h1⟩:=str 0 om
  exact World.block_lt_of_cell? W _ h1
theorem q4q:Tryz.prog.underlying 61=some (.int .u32):=by kernel_rfl
set_option maxRecDepth 100000 in
theorem qoj {W:World} (h:laidMetH Tryz.prog Rows.archiveOneRow.laid W):aL W.heap.size W:=by
 have hl:=qqz h
 rw [MakeChecks.laidMetH_plain _ _ _ kr] at h
 obtain ⟨g1, t1, cs1, f1, p1, hg1, ht1, hv1, hd1⟩ := Lib.laidMet.reads h (n := "quantum/crc.halves") (d := Rows.laid_quantum_crc_halves) (List.mem_cons_of_mem _ (List.mem_cons_of_mem _ (List.mem_cons_self ..)))
 obtain ⟨g2, t2, cs2, f2, p2, hg2, ht2, hv2, hd2⟩ := Lib.laidMet.reads h (n := "quantum/block.magic") (d := Rows.laid_quantum_block_magic) (List.mem_cons_of_mem _ (List.mem_cons_of_mem _ (List.mem_cons_of_mem _ (List.mem_cons_self ..))))
 have EP : Tryz.prog.globalNamed "quantum/crc.halves" = some 1 := by kernel_rfl
 have ER : Tryz.prog.globalNamed "quantum/block.magic" = some 0 := by kernel_rfl
 obtain rfl:=Option.some.inj (EP.symm.trans hg1)
 obtain rfl:=Option.some.inj (ER.symm.trans hg2)
 have M5:(Tryz.prog.globals[1]?).map (·.type)=some 405:=by kernel_rfl
 have M6:(Tryz.prog.globals[0]?).map (·.type)=some 287:=by kernel_rfl
 obtain rfl:=Option.some.inj (M5.symm.trans ht1)
 obtain rfl:=Option.some.inj (M6.symm.trans ht2)
 have zL:Tryz.prog.cellsOf 61=1:=by kernel_rfl
 have zM:Tryz.prog.cellsOf 5=1:=by kernel_rfl
 have c1:∀i v,cs1.toList[i]?=some v→W.cell? ⟨1,i,none⟩=some v:=fun i v hv=>by
  rw [World.var?_cell EP hv1 i];simpa using hv
 have c2:∀i v,cs2.toList[i]?=some v→W.cell? ⟨0,i,none⟩=some v:=fun i v hv=>by
  rw [World.var?_cell ER hv2 i];simpa using hv
 have CF:∀(cs:List Value) (i:Nat) (v:Value),(cs.drop (i*1)).take 1=[v]→cs[i]?=some v:=by
  intro cs i v h
  have:=congrArg (·[0]?) h
  simpa [List.getElem?_take,List.getElem?_drop] using this
 have hal:∀k,k<16→W.cell? ⟨1,k,none⟩=some (.int .u32 ((pI.getD k 0:Nat):Int)):=by
  intro k hk
  obtain ⟨f',d,q,hd,ht⟩:=Lib.array_elem (n:=16) (e:=61) kr hd1 k hk
  rw [zL] at ht
  have hdk:d= .lit (.int .u32 ((pI.getD k 0:Nat):Int)):=by
   have hk':k=0∨k=1∨k=2∨k=3∨k=4∨k=5∨k=6∨k=7∨k=8∨k=9∨k=10∨k=11∨k=12∨k=13∨k=14∨k=15:=by omega
   rcases hk' with rfl|rfl|rfl|rfl|rfl|rfl|rfl|rfl|rfl|rfl|rfl|rfl|rfl|rfl|rfl|rfl<;>exact (Option.some.inj hd).symm
  subst hdk
  obtain ⟨z,e1,e2,_⟩:=DataW.trod_int q4q ht
  have e2:=congrArg Prod.fst e2
  simp only [DataW.lit.injEq,Lit.int.injEq,true_and] at e2
  exact c1 k _ (by rw [CF _ _ _ e1,←e2])
 have mag:∀k,k<2→W.cell? ⟨0,k,none⟩=some (.int .u8 (([113,116].getD k 0:Nat):Int)):=by
  intro k hk
  obtain ⟨f',d,q,hd,ht⟩:=Lib.array_elem (n:=2) (e:=5) kr hd2 k hk
  rw [zM] at ht
  have hdk:d= .lit (.int .u8 (([113,116].getD k 0:Nat):Int)):=by
   have hk':k=0∨k=1:=by omega
   rcases hk' with rfl|rfl<;>exact (Option.some.inj hd).symm
  subst hdk
  obtain ⟨z,e1,e2,_⟩:=DataW.trod_int q56 ht
  have e2:=congrArg Prod.fst e2
  simp only [DataW.lit.injEq,Lit.int.injEq,true_and] at e2
  exact c2 k _ (by rw [CF _ _ _ e1,←e2])
 exact ⟨hl,hal,World.block_lt_of_cell? W _ (hal 0 om),mag 0 om,mag 1 om,World.block_lt_of_cell? W _ (mag 0 om)⟩
end Go.Proofs.YtekiimhdnigmcaaGreatDoor
