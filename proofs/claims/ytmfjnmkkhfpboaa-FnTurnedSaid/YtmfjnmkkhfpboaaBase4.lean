/- Plain words on the sum of a text: each of its steps is one to one, so two texts of one length that differ in one byte have different sums. -/
import Derived.Test.YtmfjnmkkhfpboaaBase
import Derived.Test.YtmfjnmkkhfpboaaBase2
import Derived.Laws.BitsAllLaws
namespace Go.Proofs.Ytmfjnmkkhfpboaa.Base
open Go.RowKit Go.Proofs.YtmfjnmkkhfpboaaW.PrintWords

def s1 (n : Nat) : Nat := if n % 2 = 1 then (n / 2) ^^^ 3558460437 else n / 2
theorem xor_can {a b c : Nat} (h : a ^^^ c = b ^^^ c) : a = b := by
  have := congrArg (· ^^^ c) h
  simpa [Nat.xor_assoc, Nat.xor_self] using this
theorem xor_can' {a b c : Nat} (h : c ^^^ a = c ^^^ b) : a = b := by
  rw [Nat.xor_comm c a, Nat.xor_comm c b] at h; exact xor_can h
theorem s1_lt {n : Nat} (h : n < 4294967296) : s1 n < 4294967296 := by
  unfold s1
  split
  · exact Nat.xor_lt_two_pow (n := 32) (by omega) (by omega)
  · omega
theorem low_bit {n : Nat} (h : n < 4294967296) : (n / 2).testBit 31 = false := Nat.testBit_lt_two_pow (by omega)
theorem s1_bit {n : Nat} (h : n < 4294967296) : (s1 n).testBit 31 = decide (n % 2 = 1) := by
  unfold s1
  split
  · rename_i c
    rw [Nat.testBit_xor, low_bit h, decide_eq_true c]
    decide
  · rename_i c
    rw [low_bit h, decide_eq_false c]
theorem s1_inj {a b : Nat} (ha : a < 4294967296) (hb : b < 4294967296) (h : s1 a = s1 b) : a = b := by
  have hp : decide (a % 2 = 1) = decide (b % 2 = 1) := by rw [← s1_bit ha, ← s1_bit hb, h]
  unfold s1 at h
  by_cases c : a % 2 = 1
  · rw [decide_eq_true c] at hp
    have c' := of_decide_eq_true hp.symm
    rw [if_pos c, if_pos c'] at h
    have := xor_can h
    omega
  · rw [decide_eq_false c] at hp
    have c' := of_decide_eq_false hp.symm
    rw [if_neg c, if_neg c'] at h
    omega
def sn : Nat → Nat → Nat
  | 0, n => n
  | k + 1, n => sn k (s1 n)
theorem sn_lt : ∀ (k n : Nat), n < 4294967296 → sn k n < 4294967296
  | 0, _, h => h
  | k + 1, _, h => sn_lt k _ (s1_lt h)
theorem sn_inj : ∀ (k a b : Nat), a < 4294967296 → b < 4294967296 → sn k a = sn k b → a = b
  | 0, _, _, _, _, h => h
  | k + 1, _, _, ha, hb, h => s1_inj ha hb (sn_inj k _ _ (s1_lt ha) (s1_lt hb) h)
def fd (n c : Nat) : Nat := sn 8 (n ^^^ c)
def more (n : Nat) (l : List UInt8) : Nat := l.foldl (fun x c => fd x c.toNat) n
theorem byte_lt (c : UInt8) : c.toNat < 4294967296 := Nat.lt_trans c.toNat_lt (by decide)
theorem fd_lt {n c : Nat} (h : n < 4294967296) (hc : c < 4294967296) : fd n c < 4294967296 := sn_lt 8 _ (Nat.xor_lt_two_pow (n := 32) h hc)
theorem more_cons (n : Nat) (c : UInt8) (l : List UInt8) : more n (c :: l) = more (fd n c.toNat) l := by rw [more, List.foldl_cons, ← more]
theorem more_append (n : Nat) (l l' : List UInt8) : more n (l ++ l') = more (more n l) l' := by rw [more, List.foldl_append, ← more, ← more]
theorem more_lt : ∀ (l : List UInt8) (n : Nat), n < 4294967296 → more n l < 4294967296
  | [], _, h => h
  | c :: l, n, h => by rw [more_cons]; exact more_lt l _ (fd_lt h (byte_lt c))
theorem more_inj : ∀ (l : List UInt8) (a b : Nat), a < 4294967296 → b < 4294967296 → more a l = more b l → a = b
  | [], _, _, _, _, h => h
  | c :: l, a, b, ha, hb, h => by
    rw [more_cons, more_cons] at h
    have h2 := more_inj l _ _ (fd_lt ha (byte_lt c)) (fd_lt hb (byte_lt c)) h
    exact xor_can (sn_inj 8 _ _ (Nat.xor_lt_two_pow (n := 32) ha (byte_lt c)) (Nat.xor_lt_two_pow (n := 32) hb (byte_lt c)) h2)
theorem more_differ {p q : List UInt8} {c c' : UInt8} (n : Nat) (hn : n < 4294967296) (h : more n (p ++ c :: q) = more n (p ++ c' :: q)) : c = c' := by
  rw [more_append, more_append, more_cons, more_cons] at h
  have hp := more_lt p n hn
  have h2 := more_inj q _ _ (fd_lt hp (byte_lt c)) (fd_lt hp (byte_lt c')) h
  have h3 := xor_can' (sn_inj 8 _ _ (Nat.xor_lt_two_pow (n := 32) hp (byte_lt c)) (Nat.xor_lt_two_pow (n := 32) hp (byte_lt c')) h2)
  exact UInt8.toNat_inj.1 h3
/-! the printed words are these -/
theorem sum1_nat {n : Nat} (h : n < 4294967296) : sum1 (n : Int) = (s1 n : Int) := by
  unfold sum1 s1
  rw [tmodp (by omega), tdivp (by omega), show ((n : Int) / 2) % 4294967296 = ((n / 2 : Nat) : Int) from by omega]
  by_cases c : n % 2 = 1
  · rw [if_pos (by omega), if_pos c]
    exact u32_xor_nat (n / 2) 3558460437 (by omega) (by omega)
  · rw [if_neg (by omega), if_neg c]
theorem sumN_nat : ∀ (k n : Nat), n < 4294967296 → sumN k (n : Int) = (sn k n : Int)
  | 0, _, _ => rfl
  | k + 1, n, h => by rw [sumN, sum1_nat h, sumN_nat k _ (s1_lt h)]; rfl
theorem feed_nat {n c : Nat} (h : n < 4294967296) (hc : c < 256) : feed (n : Int) (c : Int) = (fd n c : Int) := by
  unfold feed fd
  rw [show (c : Int) % 4294967296 = (c : Int) from by omega, u32_xor_nat n c h (by omega)]
  exact sumN_nat 8 _ (Nat.xor_lt_two_pow (n := 32) h (by omega))
theorem sumMore_nat : ∀ (l : List UInt8) (n : Nat), n < 4294967296 → sumMore (n : Int) l = (more n l : Int)
  | [], _, _ => by rw [sumMore_nil]; rfl
  | c :: l, n, h => by rw [sumMore_cons, feed_nat h c.toNat_lt, more_cons, sumMore_nat l _ (fd_lt h (byte_lt c))]
theorem sumOf_nat (s : ByteArray) : sumOf s = (more 4294967295 s.data.toList : Int) := sumMore_nat _ 4294967295 (by decide)
theorem four_inj {a b : Nat} (ha : a < 4294967296) (hb : b < 4294967296) (h : four (a : Int) = four (b : Int)) : a = b := by
  have e : ∀ n : Nat, bytesOf (four (n : Int)) = [((n : Int) / 16777216) % 256, ((n : Int) / 65536) % 256, ((n : Int) / 256) % 256, (n : Int) % 256] := fun n => by
    refine bytesOf_nums _ (fun x hx => ?_)
    simp only [List.mem_cons, List.not_mem_nil, or_false] at hx
    rcases hx with rfl | rfl | rfl | rfl <;> omega
  have h2 := congrArg bytesOf h
  rw [e, e] at h2
  injection h2 with h3 h2
  injection h2 with h4 h2
  injection h2 with h5 h2
  injection h2 with h6 h2
  omega
theorem sealed_turned (s t : ByteArray) (i : Nat) (c : UInt8) (ht : t.data.toList = (s ++ four (sumOf s)).data.toList.set i c) (hi : i < s.size + 4) (hc : (s ++ four (sumOf s)).data.toList[i]? ≠ some c) : unsealedOf t = noText := by
  have hl : (s ++ four (sumOf s)).data.toList.length = s.size + 4 := by rw [size_len, app_size, four_size]
  have hz : t.size = s.size + 4 := by rw [← size_len, ht, List.length_set, hl]
  unfold unsealedOf
  by_cases h : t.size < 4 ∨ 20004 < t.size
  · rw [if_pos h]
  rw [if_neg h, if_neg]
  intro he
  have h1 := congrArg (fun b : ByteArray => b.data.toList) he
  simp only [ext_data] at h1
  rw [hz, Nat.add_sub_cancel, ht] at h1
  have hf : (four (sumOf s)).data.toList.length = 4 := by rw [size_len, four_size]
  rw [List.take_of_length_le (by rw [List.length_drop, List.length_set, hl]; omega)] at h1
  by_cases hlt : i < s.size
  · have hs : i < s.data.toList.length := by rw [size_len]; exact hlt
    have e1 : (s ++ four (sumOf s)).data.toList.set i c = s.data.toList.set i c ++ (four (sumOf s)).data.toList := by rw [app_data, List.set_append_left _ _ hs]
    have hd : t.extract 0 s.size = (t.extract 0 s.size) := rfl
    rw [e1, List.drop_left' (by rw [List.length_set, size_len])] at h1
    have h2 : four (sumOf s) = four (sumOf (t.extract 0 s.size)) := ba_ext h1
    rw [sumOf_nat, sumOf_nat, ext_data, List.drop_zero, Nat.sub_zero, ht, e1, List.take_left' (by rw [List.length_set, size_len])] at h2
    have h3 := four_inj (more_lt _ _ (by decide)) (more_lt _ _ (by decide)) h2
    have e2 : s.data.toList = s.data.toList.take i ++ s.data.toList[i] :: s.data.toList.drop (i + 1) := by rw [List.getElem_cons_drop, List.take_append_drop]
    rw [List.set_eq_take_append_cons_drop, if_pos hs] at h3
    conv at h3 => lhs; rw [e2]
    have h4 := more_differ _ (by decide) h3
    refine hc ?_
    rw [app_data, List.getElem?_append_left hs, List.getElem?_eq_getElem hs, h4]
  · have e1 : (s ++ four (sumOf s)).data.toList.set i c = s.data.toList ++ (four (sumOf s)).data.toList.set (i - s.size) c := by
      rw [app_data, List.set_append_right _ _ (by rw [size_len]; omega), size_len]
    have hd : t.extract 0 s.size = s := ba_ext (by rw [ext_data, List.drop_zero, Nat.sub_zero, ht, e1, List.take_left' (size_len s)])
    rw [hd, e1, List.drop_left' (size_len s)] at h1
    have h2 := congrArg (fun l => l[i - s.size]?) h1
    rw [List.getElem?_set_self (by rw [hf]; omega)] at h2
    refine hc ?_
    rw [app_data, List.getElem?_append_right (by rw [size_len]; omega), size_len, h2]
theorem unsealed_sealed (s : ByteArray) (h : s.size ≤ 20000) : unsealedOf (s ++ four (sumOf s)) = (s, true) := by
  have hz : (s ++ four (sumOf s)).size = s.size + 4 := by rw [app_size, four_size]
  have e0 : (s ++ four (sumOf s)).extract 0 s.size = s := ba_ext (by rw [ext_data, List.drop_zero, Nat.sub_zero, app_data, List.take_left' (size_len s)])
  have e1 : (s ++ four (sumOf s)).extract s.size (s.size + 4) = four (sumOf s) := ba_ext (by
    rw [ext_data, app_data, List.drop_left' (size_len s), List.take_of_length_le (by rw [size_len, four_size]; omega)])
  unfold unsealedOf
  rw [hz, if_neg (by omega), Nat.add_sub_cancel, e0, e1, if_pos rfl]
end Go.Proofs.Ytmfjnmkkhfpboaa.Base
