/-
  Known bytes: what their hashes are; the rounds of one block that is eaten over and over, for the kernel to reckon.
-/
import Derived.Test.YtpchnmcofkffiaaDoorSh5
namespace Go.Proofs.YtpchnmcofkffiaaDoor

def known1 : List UInt8 := [186, 120, 22, 191, 143, 1, 207, 234, 65, 65, 64, 222, 93, 174, 34, 35, 176, 3, 97, 163, 150, 23, 122, 156, 180, 16, 255, 97, 242, 0, 21, 173]
def known2 : List UInt8 := [227, 176, 196, 66, 152, 252, 28, 20, 154, 251, 244, 200, 153, 111, 185, 36, 39, 174, 65, 228, 100, 155, 147, 76, 164, 149, 153, 27, 120, 82, 184, 85]
def text3 : List UInt8 := [97, 98, 99, 100, 98, 99, 100, 101, 99, 100, 101, 102, 100, 101, 102, 103, 101, 102, 103, 104, 102, 103, 104, 105, 103, 104, 105, 106, 104, 105, 106, 107, 105, 106, 107, 108, 106, 107, 108, 109, 107, 108, 109, 110, 108, 109, 110, 111, 109, 110, 111, 112, 110, 111, 112, 113]
def known3 : List UInt8 := [36, 141, 106, 97, 210, 6, 56, 184, 229, 192, 38, 147, 12, 62, 96, 57, 163, 60, 228, 89, 100, 255, 33, 103, 246, 236, 237, 212, 25, 219, 6, 193]
def known4 : List UInt8 := [205, 199, 110, 92, 153, 20, 251, 146, 129, 161, 199, 226, 132, 215, 62, 103, 241, 128, 154, 72, 164, 151, 32, 14, 4, 109, 57, 204, 199, 17, 44, 208]
set_option maxRecDepth 100000 in
theorem sha_abc : shaV [97, 98, 99] = known1 := by decide +kernel
set_option maxRecDepth 100000 in
theorem sha_nil : shaV [] = known2 := by decide +kernel
set_option maxRecDepth 100000 in
theorem sha_56 : shaV text3 = known3 := by decide +kernel

/-! ## one block, over and over -/
def rrN (x p q : Nat) : Nat := Nat.lor (Nat.mod (Nat.mul x p) 4294967296) (Nat.div x q)
def stepN (kw a b c d e f g h : Nat) (k : Nat → Nat → Nat → Nat → Nat → Nat → Nat → Nat → Nat) : Nat :=
  (fun t1 => k (Nat.mod (Nat.add t1 (Nat.add (Nat.xor (Nat.xor (rrN a 1073741824 4) (rrN a 524288 8192)) (rrN a 1024 4194304)) (Nat.xor (Nat.xor (Nat.land a b) (Nat.land a c)) (Nat.land b c)))) 4294967296) a b c (Nat.mod (Nat.add d t1) 4294967296) e f g)
    (Nat.add (Nat.add (Nat.add h (Nat.xor (Nat.xor (rrN e 67108864 64) (rrN e 2097152 2048)) (rrN e 128 33554432))) (Nat.xor (Nat.land e f) (Nat.land (Nat.sub 4294967295 e) g))) kw)
noncomputable def runN (kws : List Nat) : Nat → Nat → Nat → Nat → Nat → Nat → Nat → Nat → (Nat → Nat → Nat → Nat → Nat → Nat → Nat → Nat → Nat) → Nat :=
  List.rec (fun a b c d e f g h k => k a b c d e f g h) (fun kw _ ih a b c d e f g h k => stepN kw a b c d e f g h (fun a b c d e f g h => ih a b c d e f g h k)) kws
def KWA : List Nat := [2750124281, 3533219314, 388128048, 1259814150, 2595759036, 3142742866, 4087407621, 209567798, 963185657, 1944370274, 2240997151, 3060653860, 3558850261, 3795850079, 4248659976, 587027157, 3667503101, 3854337474, 1109373709, 1449834259, 1332383432, 1811277571, 1402599420, 41923541, 356419487, 2728937732, 4167673427, 1780128268, 3506461443, 1927923708, 3100717738, 957412701, 3211936012, 2525724465, 897656708, 2750766458, 3733122911, 1490448492, 1007131835, 215170638, 199900175, 3051847127, 2546784594, 1198467073, 1121424104, 1993824782, 4206943767, 1385611443, 2838015846, 320495253, 2870002303, 616322403, 3868675357, 810932918, 4192983651, 4114851946, 2567787456, 3518289627, 3043469264, 3431775655, 2875437985, 3700493388, 2838780141, 3572068108]
def dg (S p : Nat) : Nat := Nat.mod (Nat.div S p) 4294967296
def pk (a b c d e f g h : Nat) : Nat := Nat.add (Nat.mul (Nat.add (Nat.mul (Nat.add (Nat.mul (Nat.add (Nat.mul (Nat.add (Nat.mul (Nat.add (Nat.mul (Nat.add (Nat.mul a 4294967296) b) 4294967296) c) 4294967296) d) 4294967296) e) 4294967296) f) 4294967296) g) 4294967296) h
def adN (x y : Nat) : Nat := Nat.mod (Nat.add x y) 4294967296
noncomputable def blk8 (a b c d e f g h : Nat) : Nat := runN KWA a b c d e f g h (fun a' b' c' d' e' f' g' h' => pk (adN a a') (adN b b') (adN c c') (adN d d') (adN e e') (adN f f') (adN g g') (adN h h'))
noncomputable def blkN (S : Nat) : Nat := blk8 (dg S 26959946667150639794667015087019630673637144422540572481103610249216) (dg S 6277101735386680763835789423207666416102355444464034512896) (dg S 1461501637330902918203684832716283019655932542976) (dg S 340282366920938463463374607431768211456) (dg S 79228162514264337593543950336) (dg S 18446744073709551616) (dg S 4294967296) (dg S 1)
noncomputable def itG (f : Nat → Nat) (n : Nat) : Nat → Nat := Nat.rec (fun S => S) (fun _ ih S => Nat.rec (motive := fun _ => Nat) (ih 0) (fun m _ => ih (Nat.succ m)) (f S)) n
noncomputable def itN (n : Nat) : Nat → Nat := itG blkN n

def blkA : List UInt8 := List.replicate 64 97
def itW : Nat → W8 → W8
  | 0, v => v
  | n + 1, v => eat (itW n v) blkA
def pkW (v : W8) : Nat := pk v.a v.b v.c v.d v.e v.f v.g v.h

theorem pk_is (a b c d e f g h : Nat) : pk a b c d e f g h = ((((((a * 4294967296 + b) * 4294967296 + c) * 4294967296 + d) * 4294967296 + e) * 4294967296 + f) * 4294967296 + g) * 4294967296 + h := rfl
theorem div_step {x y : Nat} (p : Nat) (h : y < 4294967296) : (x * 4294967296 + y) / (4294967296 * p) = x / p := by
  rw [← Nat.div_div_eq_div_mul, Nat.mul_comm x, Nat.mul_add_div (by decide), Nat.div_eq_of_lt h, Nat.add_zero]
theorem mod_step {x y : Nat} (h : y < 4294967296) : (x * 4294967296 + y) % 4294967296 = y := by omega
structure Dg (v : W8) (S : Nat) : Prop where
  a : dg S 26959946667150639794667015087019630673637144422540572481103610249216 = v.a
  b : dg S 6277101735386680763835789423207666416102355444464034512896 = v.b
  c : dg S 1461501637330902918203684832716283019655932542976 = v.c
  d : dg S 340282366920938463463374607431768211456 = v.d
  e : dg S 79228162514264337593543950336 = v.e
  f : dg S 18446744073709551616 = v.f
  g : dg S 4294967296 = v.g
  h : dg S 1 = v.h
theorem dg_is (S p : Nat) : dg S p = S / p % 4294967296 := rfl
theorem dg_pk {v : W8} (o : v.ok) : Dg v (pkW v) := by
  obtain ⟨a, b, c, d, e, f, g, h⟩ := v
  obtain ⟨ha, hb, hc, hd, he, hf, hg, hh⟩ := o
  simp only at ha hb hc hd he hf hg hh
  unfold pkW
  constructor <;> simp only [dg_is, pk_is]
  · rw [show 26959946667150639794667015087019630673637144422540572481103610249216 = 4294967296 * 6277101735386680763835789423207666416102355444464034512896 by decide +kernel, div_step _ hh, show 6277101735386680763835789423207666416102355444464034512896 = 4294967296 * 1461501637330902918203684832716283019655932542976 by decide +kernel, div_step _ hg, show 1461501637330902918203684832716283019655932542976 = 4294967296 * 340282366920938463463374607431768211456 by decide +kernel, div_step _ hf, show 340282366920938463463374607431768211456 = 4294967296 * 79228162514264337593543950336 by decide +kernel, div_step _ he, show 79228162514264337593543950336 = 4294967296 * 18446744073709551616 by decide +kernel, div_step _ hd, show 18446744073709551616 = 4294967296 * 4294967296 by decide +kernel, div_step _ hc, show 4294967296 = 4294967296 * 1 by decide +kernel, div_step _ hb, Nat.div_one, Nat.mul_one, Nat.mod_eq_of_lt ha]
  · rw [show 6277101735386680763835789423207666416102355444464034512896 = 4294967296 * 1461501637330902918203684832716283019655932542976 by decide +kernel, div_step _ hh, show 1461501637330902918203684832716283019655932542976 = 4294967296 * 340282366920938463463374607431768211456 by decide +kernel, div_step _ hg, show 340282366920938463463374607431768211456 = 4294967296 * 79228162514264337593543950336 by decide +kernel, div_step _ hf, show 79228162514264337593543950336 = 4294967296 * 18446744073709551616 by decide +kernel, div_step _ he, show 18446744073709551616 = 4294967296 * 4294967296 by decide +kernel, div_step _ hd]
    have := div_step (x := (a * 4294967296 + b)) (y := c) 1 hc
    rw [Nat.mul_one, Nat.div_one] at this
    rw [this, mod_step hb]
  · rw [show 1461501637330902918203684832716283019655932542976 = 4294967296 * 340282366920938463463374607431768211456 by decide +kernel, div_step _ hh, show 340282366920938463463374607431768211456 = 4294967296 * 79228162514264337593543950336 by decide +kernel, div_step _ hg, show 79228162514264337593543950336 = 4294967296 * 18446744073709551616 by decide +kernel, div_step _ hf, show 18446744073709551616 = 4294967296 * 4294967296 by decide +kernel, div_step _ he]
    have := div_step (x := ((a * 4294967296 + b) * 4294967296 + c)) (y := d) 1 hd
    rw [Nat.mul_one, Nat.div_one] at this
    rw [this, mod_step hc]
  · rw [show 340282366920938463463374607431768211456 = 4294967296 * 79228162514264337593543950336 by decide +kernel, div_step _ hh, show 79228162514264337593543950336 = 4294967296 * 18446744073709551616 by decide +kernel, div_step _ hg, show 18446744073709551616 = 4294967296 * 4294967296 by decide +kernel, div_step _ hf]
    have := div_step (x := (((a * 4294967296 + b) * 4294967296 + c) * 4294967296 + d)) (y := e) 1 he
    rw [Nat.mul_one, Nat.div_one] at this
    rw [this, mod_step hd]
  · rw [show 79228162514264337593543950336 = 4294967296 * 18446744073709551616 by decide +kernel, div_step _ hh, show 18446744073709551616 = 4294967296 * 4294967296 by decide +kernel, div_step _ hg]
    have := div_step (x := ((((a * 4294967296 + b) * 4294967296 + c) * 4294967296 + d) * 4294967296 + e)) (y := f) 1 hf
    rw [Nat.mul_one, Nat.div_one] at this
    rw [this, mod_step he]
  · rw [show 18446744073709551616 = 4294967296 * 4294967296 by decide +kernel, div_step _ hh]
    have := div_step (x := (((((a * 4294967296 + b) * 4294967296 + c) * 4294967296 + d) * 4294967296 + e) * 4294967296 + f)) (y := g) 1 hg
    rw [Nat.mul_one, Nat.div_one] at this
    rw [this, mod_step hf]
  · have := div_step (x := ((((((a * 4294967296 + b) * 4294967296 + c) * 4294967296 + d) * 4294967296 + e) * 4294967296 + f) * 4294967296 + g)) (y := h) 1 hh
    rw [Nat.mul_one, Nat.div_one] at this
    rw [this, mod_step hg]
  · rw [Nat.div_one, mod_step hh]
theorem pkW_inj {u v : W8} (hu : u.ok) (hv : v.ok) (h : pkW u = pkW v) : u = v := by
  have a := dg_pk hu
  have b := dg_pk hv
  rw [h] at a
  obtain ⟨u1, u2, u3, u4, u5, u6, u7, u8⟩ := u
  obtain ⟨v1, v2, v3, v4, v5, v6, v7, v8⟩ := v
  have h1 := a.a.symm.trans b.a
  have h2 := a.b.symm.trans b.b
  have h3 := a.c.symm.trans b.c
  have h4 := a.d.symm.trans b.d
  have h5 := a.e.symm.trans b.e
  have h6 := a.f.symm.trans b.f
  have h7 := a.g.symm.trans b.g
  have h8 := a.h.symm.trans b.h
  simp only at h1 h2 h3 h4 h5 h6 h7 h8
  subst h1 h2 h3 h4 h5 h6 h7 h8
  rfl

def rndF (v : W8) (kw : Nat) : W8 := ⟨((v.h + bS1 v.e + chs v.e v.f v.g + kw) + (bS0 v.a + maj v.a v.b v.c)) % 4294967296, v.a, v.b, v.c, (v.d + (v.h + bS1 v.e + chs v.e v.f v.g + kw)) % 4294967296, v.e, v.f, v.g⟩
theorem rndF_is (v : W8) (k w : Nat) : rndF v ((k + w) % 4294967296) = rnd v k w := by
  unfold rndF rnd t1 t2
  generalize bS1 v.e = s1
  generalize chs v.e v.f v.g = c
  generalize bS0 v.a = s0
  generalize maj v.a v.b v.c = m
  congr 1 <;> omega
theorem stepN_is (kw : Nat) (v : W8) (k : Nat → Nat → Nat → Nat → Nat → Nat → Nat → Nat → Nat) : stepN kw v.a v.b v.c v.d v.e v.f v.g v.h k = k (rndF v kw).a (rndF v kw).b (rndF v kw).c (rndF v kw).d (rndF v kw).e (rndF v kw).f (rndF v kw).g (rndF v kw).h := by
  have e1 : ∀ x, rrN x 1073741824 4 = rr x 2 := fun _ => rfl
  have e2 : ∀ x, rrN x 524288 8192 = rr x 13 := fun _ => rfl
  have e3 : ∀ x, rrN x 1024 4194304 = rr x 22 := fun _ => rfl
  have e4 : ∀ x, rrN x 67108864 64 = rr x 6 := fun _ => rfl
  have e5 : ∀ x, rrN x 2097152 2048 = rr x 11 := fun _ => rfl
  have e6 : ∀ x, rrN x 128 33554432 = rr x 25 := fun _ => rfl
  unfold stepN
  rw [e1, e2, e3, e4, e5, e6]
  rfl
theorem runN_cons (kw : Nat) (kws : List Nat) (a b c d e f g h : Nat) (k : Nat → Nat → Nat → Nat → Nat → Nat → Nat → Nat → Nat) : runN (kw :: kws) a b c d e f g h k = stepN kw a b c d e f g h (fun a b c d e f g h => runN kws a b c d e f g h k) := rfl
theorem runN_is (kws : List Nat) (k : Nat → Nat → Nat → Nat → Nat → Nat → Nat → Nat → Nat) : ∀ (v : W8), runN kws v.a v.b v.c v.d v.e v.f v.g v.h k = k (kws.foldl rndF v).a (kws.foldl rndF v).b (kws.foldl rndF v).c (kws.foldl rndF v).d (kws.foldl rndF v).e (kws.foldl rndF v).f (kws.foldl rndF v).g (kws.foldl rndF v).h := by
  induction kws with
  | nil => intro v; rfl
  | cons kw kws ih =>
    intro v
    rw [runN_cons, stepN_is, List.foldl_cons]
    exact ih (rndF v kw)
def ringSeq (bs : List UInt8) : Nat → List Nat
  | 0 => ring0 bs
  | i + 1 => ringAt (ringSeq bs i) i
def nextW (bs : List UInt8) (i : Nat) : Nat := (ringAt (ringSeq bs i) i).getD (i % 16) 0
theorem rounds_is (bs : List UInt8) (v : W8) : ∀ n, rounds bs v n = (((List.range n).map fun i => (kTab.getD i 0 + nextW bs i) % 4294967296).foldl rndF v, ringSeq bs n)
  | 0 => rfl
  | n + 1 => by
    rw [List.range_succ, List.map_append, List.foldl_append, rounds, rounds_is bs v n]
    simp only [List.map_cons, List.map_nil, List.foldl_cons, List.foldl_nil, rndF_is]
    rfl
set_option maxRecDepth 100000 in
theorem KWA_is : ((List.range 64).map fun i => (kTab.getD i 0 + nextW blkA i) % 4294967296) = KWA := by decide +kernel
theorem blkN_is {v : W8} (hv : v.ok) : blkN (pkW v) = pkW (eat v blkA) := by
  have h := dg_pk hv
  unfold blkN
  rw [h.a, h.b, h.c, h.d, h.e, h.f, h.g, h.h]
  unfold blk8
  rw [runN_is KWA _ v]
  unfold eat
  rw [rounds_is, KWA_is]
  generalize List.foldl rndF v KWA = u
  generalize ringSeq blkA 64 = r
  rfl
theorem itG_succ (f : Nat → Nat) (n S : Nat) : itG f (n + 1) S = itG f n (f S) := by
  have key : ∀ x, Nat.rec (motive := fun _ => Nat) (itG f n 0) (fun m _ => itG f n (Nat.succ m)) x = itG f n x := fun x => by cases x <;> rfl
  exact key (f S)
theorem itN_succ (n S : Nat) : itN (n + 1) S = itN n (blkN S) := itG_succ blkN n S
theorem itW_ok : ∀ n {v : W8}, v.ok → (itW n v).ok
  | 0, _, h => h
  | _ + 1, _, _ => eat_ok _ _
theorem itN_is {v : W8} (hv : v.ok) : ∀ (n k : Nat), itN n (pkW (itW k v)) = pkW (itW (k + n) v)
  | 0, _ => rfl
  | n + 1, k => by
    rw [itN_succ, blkN_is (itW_ok k hv)]
    rw [show eat (itW k v) blkA = itW (k + 1) v from rfl, itN_is hv n (k + 1), show k + 1 + n = k + (n + 1) by omega]
structure Step (S T : Nat) : Prop where
  is : Nat.beq (itN 625 S) T = true
theorem step625 {k S T : Nat} (h : pkW (itW k hFirst) = S) (hc : Nat.beq (itN 625 S) T = true) : pkW (itW (k + 625) hFirst) = T := by
  rw [← itN_is hFirst_ok, h]
  exact Nat.eq_of_beq_eq_true hc
theorem eatAll_left : ∀ (n : Nat) (v : W8) {xs ys : List UInt8}, xs.length = 64 * n → eatAll v (xs ++ ys) n = eatAll v xs n
  | 0, _, _, _, _ => rfl
  | n + 1, v, xs, ys, h => by
    rw [eatAll, eatAll, List.take_append_of_le_length (by omega), List.drop_append_of_le_length (by omega)]
    exact eatAll_left n _ (by rw [List.length_drop]; omega)
theorem eatAll_rep : ∀ (n : Nat) (v : W8), eatAll v (List.replicate (64 * n) 97) n = itW n v
  | 0, _ => rfl
  | n + 1, v => by
    rw [eatAll_snoc, itW]
    have h1 : (List.replicate (64 * (n + 1)) (97 : UInt8)).drop (64 * n) = List.replicate 64 97 := by
      rw [List.drop_replicate]; congr 1; omega
    have h2 : eatAll v (List.replicate (64 * (n + 1)) 97) n = eatAll v (List.replicate (64 * n) 97) n := by
      rw [show 64 * (n + 1) = 64 * n + 64 by omega, ← List.replicate_append_replicate]
      exact eatAll_left n v (by simp)
    rw [h1, h2, eatAll_rep n v]
    rfl
end Go.Proofs.YtpchnmcofkffiaaDoor
