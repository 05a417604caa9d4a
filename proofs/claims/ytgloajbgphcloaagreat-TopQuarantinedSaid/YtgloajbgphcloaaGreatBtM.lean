/- Sets as the bits of a number. -/
import Derived.Test.YtgloajbgphcloaaGreatCo
import Derived.Lib.RabinKarpLaws
namespace Go.Proofs.YtgloajbgphcloaaGreat
set_option linter.unusedVariables false
set_option linter.unusedSimpArgs false
open Go.RowKit
open Nat renaming lt_of_le_of_lt → Qa, lt_of_lt_of_le → Qb
theorem wraps_i64 (n:Int) (h0:0≤n) (h1:n<2^62):IntKind.i64.wrap n=n:=by rw[IntKind.wrap_i64];omega
theorem and_nat {a b:Nat} (ha:a<2^62) (hb:b<2^62):bits .and .i64 (a:Int) (b:Int)=((a &&& b:Nat):Int):=(bits_nat .i64 62 (by decide) wraps_i64 a b ha hb).1
theorem or_nat {a b:Nat} (ha:a<2^62) (hb:b<2^62):bits .or .i64 (a:Int) (b:Int)=((a ||| b:Nat):Int):=(bits_nat .i64 62 (by decide) wraps_i64 a b ha hb).2
def less (a b:Nat):Nat:=a ^^^ (a &&& b)
theorem less_bit (a b i:Nat):(less a b).testBit i=(a.testBit i&& !b.testBit i):=by
 unfold less;rw[Nat.testBit_xor,Nat.testBit_and];cases a.testBit i<;>cases b.testBit i<;>rfl
theorem less_lt {a b n:Nat} (h:a<2^n):less a b<2^n:=Nat.xor_lt_two_pow h (Qa Nat.and_le_left h)
theorem less_nat {a b:Nat} (ha:a<2^62) (hb:b<2^62):bits .andNot .i64 (a:Int) (b:Int)=((less a b:Nat):Int):=by
 have h62:(2:Nat)^62≤2^64:=Nat.pow_le_pow_right (by decide) (by decide)
 have ha':a%2^64=a:=Nat.mod_eq_of_lt (Qb ha h62)
 have hb':b%2^64=b:=Nat.mod_eq_of_lt (Qb hb h62)
 have e:a &&& (2^64 - 1 - b)=less a b:=by
  apply Nat.eq_of_testBit_eq
  intro i
  rw[Nat.testBit_and,less_bit,show 2^64 - 1 - b=2^64 - (b+1) by omega,Nat.testBit_two_pow_sub_succ (Qb hb h62)]
  by_cases hi:i<64
  ·simp[hi]
  ·have:a.testBit i=false:=Nat.testBit_lt_two_pow (Qb (Qb ha h62) (Nat.pow_le_pow_right (by decide) (by omega)))
   simp[this]
 have ea:(BitVec.ofInt 64 (a:Int)).toNat=a:=by rw[BitVec.ofInt_natCast,BitVec.toNat_ofNat,ha']
 have eb:(BitVec.ofInt 64 (b:Int)).toNat=b:=by rw[BitVec.ofInt_natCast,BitVec.toNat_ofNat,hb']
 show IntKind.i64.wrap ((BitVec.ofInt 64 (a:Int) &&& ~~~BitVec.ofInt 64 (b:Int)).toNat:Int)=_
 rw[BitVec.toNat_and,BitVec.toNat_not,ea,eb,e]
 exact wraps_i64 _ (Int.natCast_nonneg _) (by exact_mod_cast less_lt ha)
theorem has_nat {s:Nat} (hs:s<2^62) (c:Nat):bits .and .i64 ((s:Int)/2^c) 1=if s.testBit c then 1 else 0:=by
 have e0:((s:Int)/2^c)=((s/2^c:Nat):Int):=by rw[Int.natCast_ediv,Int.natCast_pow];rfl
 have h:=and_nat (a:=s/2^c) (b:=1) (Qa (Nat.div_le_self _ _) hs) (by decide)
 rw[e0]
 refine h.trans ?_
 rw[Nat.and_one_is_mod,Nat.testBit_eq_decide_div_mod_eq]
 by_cases hb:s/2^c%2=1
 ·simp[hb]
 ·have:s/2^c%2=0:=by omega
  simp[this]
theorem pow_nat (c:Nat):((2:Int)^c)=((2^c:Nat):Int):=by rw[Int.natCast_pow];rfl
def cellsTo (s k:Nat):List Nat:=(List.range k).filter s.testBit
theorem cellsTo_succ (s k:Nat):cellsTo s (k+1)=cellsTo s k++if s.testBit k then [k]else []:=by
 unfold cellsTo;rw[List.range_succ,List.filter_append];by_cases h:s.testBit k=true<;>simp[h]
theorem cellsTo_len (s k:Nat):(cellsTo s k).length≤k:=by
 unfold cellsTo;have:=List.length_filter_le s.testBit (List.range k);simpa using this
theorem mem_cellsTo {s k c:Nat} :c∈cellsTo s k↔c<k∧s.testBit c=true:=by simp[cellsTo]
theorem bit_lt {s k c:Nat} (hs:s<2^k) (h:s.testBit c=true):c<k:=by
 by_cases hc:c<k
 ·exact hc
 ·rw[Nat.testBit_lt_two_pow (Qb hs (Nat.pow_le_pow_right (by decide) (by omega)))]at h;cases h
def joins (f:Nat→Nat) (l:List Nat):Nat:=l.foldl (fun o c=>o ||| f c) 0
theorem joins_snoc (f:Nat→Nat) (l:List Nat) (c:Nat):joins f (l++[c])=joins f l ||| f c:=by simp[joins]
theorem joins_lt {f:Nat→Nat} {n:Nat} {l:List Nat} (h:∀c∈l,f c<2^n):joins f l<2^n:=by
 have:∀(l:List Nat) (o:Nat),o<2^n→(∀ c∈l,f c<2^n)→l.foldl (fun o c=>o ||| f c) o<2^n:=by
  intro l
  induction l with
  | nil=>intro o ho _;exact ho
  | cons x l ih=>intro o ho hl;exact ih _ (Nat.or_lt_two_pow ho (hl x (by simp))) (fun c hc=>hl c (by simp[hc]))
 exact this l 0 (Nat.two_pow_pos n) h
theorem joins_bit (f:Nat→Nat) (l:List Nat) (i:Nat):(joins f l).testBit i=l.any fun c=>(f c).testBit i:=by
 have:∀(l:List Nat) (o:Nat),(l.foldl (fun o c=>o ||| f c) o).testBit i=(o.testBit i||l.any fun c=>(f c).testBit i):=by
  intro l
  induction l with
  | nil=>intro o;simp
  | cons x l ih=>intro o;rw[List.foldl_cons,ih,Nat.testBit_or,List.any_cons,Bool.or_assoc]
 simpa[joins]using this l 0
def drops (p:Nat→Bool) (s:Nat) (l:List Nat):Nat:=l.foldl (fun o c=>if p c then less o (2^c)else o) s
theorem drops_snoc (p:Nat→Bool) (s:Nat) (l:List Nat) (c:Nat):drops p s (l++[c])=if p c then less (drops p s l) (2^c)else drops p s l:=by simp[drops]
theorem drops_lt {p:Nat→Bool} {s n:Nat} (hs:s<2^n) (l:List Nat):drops p s l<2^n:=by
 unfold drops
 induction l generalizing s with
 | nil=>exact hs
 | cons x l ih=>rw[List.foldl_cons];split;exact ih (less_lt hs);exact ih hs
theorem drops_bit (p:Nat→Bool) (s:Nat) (l:List Nat) (i:Nat):(drops p s l).testBit i=(s.testBit i&& !(l.any fun c=>p c&&c == i)):=by
 unfold drops
 induction l generalizing s with
 | nil=>simp
 | cons x l ih =>
  rw[List.foldl_cons,ih,List.any_cons]
  cases hp:p x
  ·simp
  ·simp only[if_true,less_bit,Nat.testBit_two_pow,Bool.true_and]
   by_cases h:x=i
   ·subst h;simp
   ·rw[decide_eq_false h,show(x == i)=false by simpa using h];simp
end Go.Proofs.YtgloajbgphcloaaGreat
