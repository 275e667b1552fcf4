/- A part of the proof. -/
import Derived.Test.YtcajpeiobkcliaaGreatDoorQiSep13
import Derived.Laws.StructEq
namespace Go.Proofs.YtcajpeiobkcliaaGreatDoor
open Go.RowKit
section
variable {P:Program} {S:World→Prop} {σ:List (Nat×Value)} {o:Oper} {v:Value}
def qsi (P:Program) (t:TypeId):Bool:=match P.underlying t with
 |some (.pointer _)=>true
 |_=>false
theorem qsj {t:TypeId} {a:Option Addr} (ht:qsi P t=true) (w:World):(Op.equal t (.pointer a) (.pointer none)).run P w= .ok a.isNone w:=by
 unfold qsi at ht
 split at ht
 ·rename_i hu
  show (Op.equalIn (9999+1) t (.pointer a) (.pointer none)).run P w=_
  unfold Op.equalIn
  cases a<;>simp only [Sem.run_bind,run_underlying hu,Result.andThen_ok]<;>rfl
 ·cases ht
theorem qwa {t:TypeId} {a:Option Addr} {m c m' c':Nat} (ht:isSl P t=true) (w:World):(Op.equal t (.slice a m c) (.slice none m' c')).run P w= .ok a.isNone w:=by
 unfold isSl at ht
 split at ht
 ·rename_i hu
  show (Op.equalIn (9999+1) t (.slice a m c) (.slice none m' c')).run P w=_
  unfold Op.equalIn
  cases a<;>simp only [Sem.run_bind,run_underlying hu,Result.andThen_ok]<;>rfl
 ·cases ht
theorem Yl.qv4 {b:Bool} {t u:TypeId} {x y:Operand} {a:Option Addr} (hop:o.op= .binOp .eql t x y u) (hx:look σ x=some (.pointer a)) (hy:look σ y=some (.pointer none)) (hb:a.isNone=b:=by rfl) (ht:qsi P t=true:=by kernel_rfl):Yl P S σ o (.bool b):=fun _ n D Z w hS=>by
 subst hb
 unfold execOp
 have e:(binOp .eql t (.pointer a) (.pointer none)).run P w= .ok (.bool a.isNone) w:=by
  show ((do Pure.pure (.bool (←Op.equal t (.pointer a) (.pointer none))):Sem Value)).run P w=_
  simp [qsj ht]
 simp only [hop,Z.eval hx,Z.eval hy,Sem.run_bind,zi (P:=P) .eql t x y (a:= .pointer a) rfl,Result.andThen_ok,e,Sem.run_pure]
theorem Yl.qyp {b:Bool} {t u:TypeId} {x y:Operand} {a:Option Addr} {m c m' c':Nat} (hop:o.op= .binOp .eql t x y u) (hx:look σ x=some (.slice a m c)) (hy:look σ y=some (.slice none m' c')) (hb:a.isNone=b:=by rfl) (ht:isSl P t=true:=by kernel_rfl):Yl P S σ o (.bool b):=fun _ n D Z w hS=>by
 subst hb
 unfold execOp
 have e:(binOp .eql t (.slice a m c) (.slice none m' c')).run P w= .ok (.bool a.isNone) w:=by
  show ((do Pure.pure (.bool (←Op.equal t (.slice a m c) (.slice none m' c'))):Sem Value)).run P w=_
  simp [qwa ht]
 simp only [hop,Z.eval hx,Z.eval hy,Sem.run_bind,zi (P:=P) .eql t x y (a:= .slice a m c) rfl,Result.andThen_ok,e,Sem.run_pure]
theorem Yl.nilCheck {x:Operand} {p:Addr} (hop:o.op= .nilCheck x) (hx:look σ x=some (.pointer (some p))):Yl P S σ o (.pointer (some p)):=fun _ n D Z w hS=>by
 unfold execOp
 simp only [hop,Z.eval hx]
 rfl
end
def partV (P:Program) (t:TypeId) (cs:Array Value) (off:Nat):Option Value:=
 match P.underlying t,P.info? t with
 |some (.struct _),some i=>some (.agg (cs.extract off (off+i.size)))
 |some (.int _),_=>cs[off]?
 |some .bool,_=>cs[off]?
 |some .string,_=>cs[off]?
 |_,_=>none
def qct (P:Program) (eq:TypeId→Value→Value→Option Bool) (xs ys:Array Value):List Field→Option Bool
 |[]=>some true
 | f :: fs => if f.name = "_" then none else
  match partV P f.type xs f.offset,partV P f.type ys f.offset with
  |some a,some b=>match eq f.type a b,qct P eq xs ys fs with
   |some r,some s=>some (r&&s)
   |_,_=>none
  |_,_=>none
def zc (P:Program):Nat→TypeId→Value→Value→Option Bool
 |0,_,_,_=>none
 |d+1,t,x,y=>match P.underlying t,x,y with
  |some (.int _),.int k a,.int k' b=>if k=k' then some (a==b) else none
  |some .bool,.bool a,.bool b=>some (a==b)
  |some .string,.string a,.string b=>some (a.toList==b.toList)
  |some (.struct fs),.agg xs,.agg ys=>if P.stoodInHeld t then none else qct P (zc P d) xs ys fs.toList
  |_,_,_=>none
theorem qgk {P:Program} {t:TypeId} {cs:Array Value} {off:Nat} {v:Value} (h:partV P t cs off=some v) (w:World):(part t cs off).run P w= .ok v w:=by
 unfold partV at h
 split at h
 ·rename_i fs i hu hi
  injection h with h;subst h
  simp [part,isAgg,run_underlying hu,sizeOf,typeInfo,hi]
 ·rename_i k _ hu
  simp [part,isAgg,run_underlying hu,h]
 ·rename_i _ hu
  simp [part,isAgg,run_underlying hu,h]
 ·rename_i _ hu
  simp [part,isAgg,run_underlying hu,h]
 ·cases h
theorem qfp {P:Program} {d:Nat} (ih:∀(t:TypeId) (x y:Value) (b:Bool),zc P d t x y=some b→∀w,(Op.equalIn d t x y).run P w= .ok b w) {xs ys:Array Value}:∀(fs:List Field) (b:Bool),qct P (zc P d) xs ys fs=some b→∀w,(Op.eqFields d xs ys fs).run P w= .ok b w
 |[],b,h,w=>by
  injection h with h;subst h;rfl
 | f :: fs, b, h, w => by
  unfold qct at h
  split at h
  ·cases h
  ·rename_i hn
   split at h
   ·rename_i p q hp hq
    split at h
    ·rename_i r s hr hs
     injection h with h;subst h
     unfold Op.eqFields
     rw [if_pos hn]
     simp only [Sem.run_bind,qgk hp,qgk hq,ih _ _ _ _ hr,Result.andThen_ok]
     cases r
     ·simp
     ·simp [qfp ih fs s hs w]
    ·cases h
   ·cases h
theorem qgl {P:Program}:∀(d:Nat) (t:TypeId) (x y:Value) (b:Bool),zc P d t x y=some b→∀w,(Op.equalIn d t x y).run P w= .ok b w
 |0,_,_,_,_,h,_=>by cases h
 | d + 1, t, x, y, b, h, w => by
  unfold zc at h
  split at h
  ·rename_i k' k a k2 b' hu
   split at h
   ·rename_i hk;subst hk;injection h with h;subst h;exact run_equalIn_int w d t _ _ _ _ hu
   ·cases h
  ·rename_i a b' hu;injection h with h;subst h;exact run_equalIn_bool' w d t _ _ hu
  ·rename_i a b' hu;injection h with h;subst h;exact run_equalIn_string w d t _ _ hu
  ·rename_i fs xs ys hu
   split at h
   ·cases h
   ·rename_i hs
    have hf:P.fieldsOf t=fs:=by unfold Program.fieldsOf;rw [hu]
    rw [run_equalIn_struct w d t xs ys (by rw [hu,hf]) (by simpa using hs),hf]
    exact qfp (qgl d) _ _ h w
  ·cases h
theorem qfq {P:Program}:∀(d:Nat) (t:TypeId) (x y:Value) (b:Bool),zc P d t x y=some b→zc P (d+1) t x y=some b
 |0,_,_,_,_,h=>by cases h
 | d + 1, t, x, y, b, h => by
  have hf : ∀ (fs : List Field) (xs ys : Array Value) (b : Bool), qct P (zc P d) xs ys fs = some b → qct P (zc P (d + 1)) xs ys fs = some b := by
   intro fs
   induction fs with
   |nil=>intro xs ys b h;exact h
   | cons f fs ih =>
    intro xs ys b h
    unfold qct at h⊢
    split at h
    ·cases h
    ·rename_i hn
     rw [if_neg hn]
     split at h
     ·rename_i p q hp hq
      split at h
      ·rename_i r s hr hs
       injection h with h;subst h
       simp only [qfq d _ _ _ _ hr,ih _ _ _ hs]
      ·cases h
     ·cases h
  unfold zc at h⊢
  split at h
  ·rename_i hu;(try simp only [hu]);exact h
  ·rename_i hu;(try simp only [hu]);exact h
  ·rename_i hu;(try simp only [hu]);exact h
  ·rename_i fs xs ys hu
   (try simp only [hu])
   split at h
   ·cases h
   ·rename_i hs
    rw [if_neg hs]
    exact hf _ _ _ _ h
  ·cases h
theorem qic {P:Program} {d:Nat} {t:TypeId} {x y:Value} {b:Bool} (h:zc P d t x y=some b):∀k,zc P (d+k) t x y=some b
 |0=>h
 |k+1=>qfq _ _ _ _ _ (qic h k)
section
variable {P:Program} {S:World→Prop} {σ:List (Nat×Value)} {o:Oper} {b:Bool}
theorem qmn {t:TypeId} {xs ys:Array Value} {d:Nat} (h:zc P d t (.agg xs) (.agg ys)=some b) (hd:d≤10000) (w:World):(Op.equal t (.agg xs) (.agg ys)).run P w= .ok b w:=by
 unfold Op.equal
 have h2:=qic h (10000-d)
 rw [show d+(10000-d)=10000 by omega] at h2
 exact qgl _ _ _ _ _ h2 w
theorem qmo {t:TypeId} (hm:P.eqGuardType P.depth t=false) (op:BinOp) (x y:Operand) (a c:Array Value) (w:World):(eqGuard op t x y (.agg a) (.agg c)).run P w= .ok () w:=run_eqGuard_agg w op t x y a c hm
theorem Yl.qmd {t u:TypeId} {p q:Operand} {xs ys:Array Value} {d:Nat} (hop:o.op= .binOp .neq t p q u) (hx:look σ p=some (.agg xs)) (hy:look σ q=some (.agg ys)) (h:zc P d t (.agg xs) (.agg ys)=some b) (hd:d≤10000:=by decide) (hm:P.eqGuardType P.depth t=false:=by kernel_rfl):Yl P S σ o (.bool !b):=fun a n D Z w hS=>by
 unfold execOp
 have e:(binOp .neq t (.agg xs) (.agg ys)).run P w= .ok (.bool !b) w:=by
  show ((do Pure.pure (.bool (!(←Op.equal t (.agg xs) (.agg ys)))):Sem Value)).run P w=_
  simp [qmn h hd]
 simp only [hop,Z.eval hx,Z.eval hy,Sem.run_bind,qmo hm,Result.andThen_ok,e,Sem.run_pure]
end
end Go.Proofs.YtcajpeiobkcliaaGreatDoor
