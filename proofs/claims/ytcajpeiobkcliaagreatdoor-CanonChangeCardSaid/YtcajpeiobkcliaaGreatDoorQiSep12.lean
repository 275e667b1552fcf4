/- A part of the proof. -/
import Derived.Test.YtcajpeiobkcliaaGreatDoorQiSep11
import Derived.IntWalk
namespace Go.Proofs.YtcajpeiobkcliaaGreatDoor
open Go.RowKit
def mostN:Go.IntKind→Nat
 | .i8=>127| .i16=>32767| .i32=>2147483647| .i64=>9223372036854775807
 | .u8=>255| .u16=>65535| .u32=>4294967295| .u64=>18446744073709551615
theorem qbc (k:Go.IntKind) {m:Nat} (h:m≤mostN k):Go.IntKind.wrap k (m:Int)=(m:Int):=by
 cases k<;>simp only [mostN] at h
 ·exact IntWalk.i8_in _ om
 ·exact IntWalk.i16_in _ om
 ·exact IntWalk.i32_in _ om
 ·exact IntWalk.i64_in _ om
 ·exact IntWalk.u8_in _ om
 ·exact IntWalk.u16_in _ om
 ·exact IntWalk.u32_in _ om
 ·exact IntWalk.u64_in _ om
theorem qa5 {x:Int} {m:Nat} (h:x=(m:Int)) (hb:m≤9223372036854775807):Value.int .i64 (Go.IntKind.i64.wrap x)= .int .i64 (m:Int):=by subst h;rw [qbc .i64 hb]
theorem qe9 {x:Int} {m:Nat} (h:x=(m:Int)) (hb:m≤18446744073709551615):Value.int .u64 (Go.IntKind.u64.wrap x)= .int .u64 (m:Int):=by subst h;rw [qbc .u64 hb]
theorem qd2 {x:Int} {m:Nat} (h:x=(m:Int)) (hb:m≤4294967295):Value.int .u32 (Go.IntKind.u32.wrap x)= .int .u32 (m:Int):=by subst h;rw [qbc .u32 hb]
theorem qoa (m:Nat):Value.int .u8 (Go.IntKind.u8.wrap (m:Int))= .int .u8 ((m%256:Nat):Int):=by
 rw [Go.IntKind.wrap_u8];simp
theorem qae (k:Go.IntKind) (m n:Nat):Value.int k (Int.tmod (m:Int) (n:Int))= .int k ((m%n:Nat):Int):=by rw [Int.tmod_eq_emod_of_nonneg om];rfl
theorem qv9 (k:Go.IntKind) {m:Nat} (n:Nat) (h:m≤mostN k):Value.int k (Go.IntKind.wrap k (Int.tdiv (m:Int) (n:Int)))= .int k ((m/n:Nat):Int):=by
 rw [Int.tdiv_eq_ediv_of_nonneg om,show ((m:Int)/ (n:Int))=((m/n:Nat):Int) from rfl,qbc k (Nat.le_trans (Nat.div_le_self _ _) h)]
theorem qbt (k:Go.IntKind) (m:Nat) {j:Nat} {p:Int} {q:Nat} (hp:p=(j:Int)) (hq:2^ (min p.toNat k.bits)=q):Value.int k (Int.fdiv (m:Int) (2^ (min p.toNat k.bits)))= .int k ((m/q:Nat):Int):=by
 subst hp;subst hq
 congr 1
 rw [Int.fdiv_eq_ediv_of_nonneg _ (by exact_mod_cast Nat.zero_le _)]
 norm_cast
theorem qcf (w:Nat) {m:Nat} (h:m<2^w):(BitVec.ofInt w (m:Int)).toNat=m:=by
 rw [BitVec.toNat_ofInt]
 have:((m:Int)% ((2^w:Nat):Int))=(m:Int):=Int.emod_eq_of_lt om (by exact_mod_cast h)
 rw [this];rfl
theorem qzu (k:Go.IntKind) {m n:Nat} (hm:m<2^k.bits) (hn:n<2^k.bits) (hr:m&&&n≤mostN k):Value.int k (Go.IntKind.wrap k (BitVec.ofInt k.bits (m:Int)&&&BitVec.ofInt k.bits (n:Int)).toNat)= .int k ((m&&&n:Nat):Int):=by
 rw [BitVec.toNat_and,qcf _ hm,qcf _ hn,qbc k hr]
theorem qyt (k:Go.IntKind) {m n:Nat} (hm:m<2^k.bits) (hn:n<2^k.bits) (hr:m|||n≤mostN k):Value.int k (Go.IntKind.wrap k (BitVec.ofInt k.bits (m:Int)|||BitVec.ofInt k.bits (n:Int)).toNat)= .int k ((m|||n:Nat):Int):=by
 rw [BitVec.toNat_or,qcf _ hm,qcf _ hn,qbc k hr]
theorem qml (k:Go.IntKind) {m n:Nat} (hm:m<2^k.bits) (hn:n<2^k.bits) (hr:m^^^n≤mostN k):Value.int k (Go.IntKind.wrap k (BitVec.ofInt k.bits (m:Int)^^^BitVec.ofInt k.bits (n:Int)).toNat)= .int k ((m^^^n:Nat):Int):=by
 rw [BitVec.toNat_xor,qcf _ hm,qcf _ hn,qbc k hr]
theorem qob (k:Go.IntKind) {m j n:Nat} (hn:n=2^j-1) (hj:2^j-1≤mostN k) (hm:m<2^k.bits) (hn2:n<2^k.bits):Value.int k (Go.IntKind.wrap k (BitVec.ofInt k.bits (m:Int)&&&BitVec.ofInt k.bits (n:Int)).toNat)= .int k ((m%2^j:Nat):Int):=by
 subst hn
 have h:=Nat.and_two_pow_sub_one_eq_mod m j
 rw [qzu k hm hn2 (by rw [h];have:=Nat.mod_lt m (Nat.two_pow_pos j);omega),h]
theorem q2b {m n:Nat} (hm:m<4294967296) (hn:n<4294967296):Value.int .u32 (Go.IntKind.u32.wrap (BitVec.ofInt Go.IntKind.u32.bits (m:Int)|||BitVec.ofInt Go.IntKind.u32.bits (n:Int)).toNat)= .int .u32 ((m|||n:Nat):Int):=
 qyt .u32 (by show m<4294967296;omega) (by show n<4294967296;omega) (by have h:m|||n<4294967296:=Nat.or_lt_two_pow (n:=32) (by simpa using hm) (by simpa using hn);show _≤4294967295;omega)
theorem qi7 {m n:Nat} (hm:m<4294967296) (hn:n<4294967296):Value.int .u32 (Go.IntKind.u32.wrap (BitVec.ofInt Go.IntKind.u32.bits (m:Int)^^^BitVec.ofInt Go.IntKind.u32.bits (n:Int)).toNat)= .int .u32 ((m^^^n:Nat):Int):=
 qml .u32 (by show m<4294967296;omega) (by show n<4294967296;omega) (by have h:m^^^n<4294967296:=Nat.xor_lt_two_pow (n:=32) (by simpa using hm) (by simpa using hn);show _≤4294967295;omega)
theorem qoc {m j n:Nat} (hn:n=2^j-1) (hn2:n<4294967296) (hm:m<4294967296):Value.int .u32 (Go.IntKind.u32.wrap (BitVec.ofInt Go.IntKind.u32.bits (m:Int)&&&BitVec.ofInt Go.IntKind.u32.bits (n:Int)).toNat)= .int .u32 ((m%2^j:Nat):Int):=
 qob .u32 hn (by rw [←hn];show n≤4294967295;omega) (by show m<4294967296;omega) (by show n<4294967296;omega)
theorem qyu {m n:Nat} (hm:m<18446744073709551616) (hn:n<18446744073709551616):Value.int .u64 (Go.IntKind.u64.wrap (BitVec.ofInt Go.IntKind.u64.bits (m:Int)|||BitVec.ofInt Go.IntKind.u64.bits (n:Int)).toNat)= .int .u64 ((m|||n:Nat):Int):=
 qyt .u64 (by show m<18446744073709551616;omega) (by show n<18446744073709551616;omega) (by have h:m|||n<18446744073709551616:=Nat.or_lt_two_pow (n:=64) (by simpa using hm) (by simpa using hn);show _≤18446744073709551615;omega)
theorem qmm {m n:Nat} (hm:m<18446744073709551616) (hn:n<18446744073709551616):Value.int .u64 (Go.IntKind.u64.wrap (BitVec.ofInt Go.IntKind.u64.bits (m:Int)^^^BitVec.ofInt Go.IntKind.u64.bits (n:Int)).toNat)= .int .u64 ((m^^^n:Nat):Int):=
 qml .u64 (by show m<18446744073709551616;omega) (by show n<18446744073709551616;omega) (by have h:m^^^n<18446744073709551616:=Nat.xor_lt_two_pow (n:=64) (by simpa using hm) (by simpa using hn);show _≤18446744073709551615;omega)
theorem qf1 {m j n:Nat} (hn:n=2^j-1) (hn2:n<18446744073709551616) (hm:m<18446744073709551616):Value.int .u64 (Go.IntKind.u64.wrap (BitVec.ofInt Go.IntKind.u64.bits (m:Int)&&&BitVec.ofInt Go.IntKind.u64.bits (n:Int)).toNat)= .int .u64 ((m%2^j:Nat):Int):=
 qob .u64 hn (by rw [←hn];show n≤18446744073709551615;omega) (by show m<18446744073709551616;omega) (by show n<18446744073709551616;omega)
theorem qzv {m n:Nat} (hm:m<9223372036854775808) (hn:n<9223372036854775808):Value.int .i64 (Go.IntKind.i64.wrap (BitVec.ofInt Go.IntKind.i64.bits (m:Int)^^^BitVec.ofInt Go.IntKind.i64.bits (n:Int)).toNat)= .int .i64 ((m^^^n:Nat):Int):=
 qml .i64 (by show m<18446744073709551616;omega) (by show n<18446744073709551616;omega) (by have h:m^^^n<9223372036854775808:=Nat.xor_lt_two_pow (n:=63) (by simpa using hm) (by simpa using hn);show _≤9223372036854775807;omega)
theorem getD_at {α:Type} {l:List α} {k:Nat} (d:α) (h:k<l.length):l[k]?=some (l.getD k d):=by
 rw [List.getD_eq_getElem?_getD,List.getElem?_eq_getElem h];rfl
theorem qd {α:Type} {l:List α} {k:Nat} (d:α) (h:k<l.length):l.getD k d∈l:=List.mem_of_getElem? (getD_at d h)
theorem getD_lt {l:List Nat} {m:Nat} (hl:∀b∈l,b<m) {k:Nat} (h:k<l.length):l.getD k 0<m:=hl _ (qd 0 h)
end Go.Proofs.YtcajpeiobkcliaaGreatDoor
