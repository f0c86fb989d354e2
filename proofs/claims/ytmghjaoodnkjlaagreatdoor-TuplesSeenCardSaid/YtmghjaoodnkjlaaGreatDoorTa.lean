/- Chapter 08, plain: the bytes of headers, sums, and what is seen of a packet. · Chapter 08, plain: what is seen is there without what stands behind it, and not without its end. · Chapter 08, plain: what was put is seen. -/

namespace Go.Proofs.YtmghjaoodnkjlaaGreatDoor
set_option linter.unusedVariables false
set_option linter.unusedSimpArgs false

/-- The byte at a place (0: there is none). -/
def byt (l : List UInt8) (i : Nat) : Nat := (l[i]?.getD 0).toNat
def g16 (l : List UInt8) (i : Nat) : Nat := if i + 2 ≤ l.length then byt l i * 256 + byt l (i + 1) else 0
def g32 (l : List UInt8) (i : Nat) : Nat := if i + 4 ≤ l.length then g16 l i * 65536 + g16 l (i + 2) else 0
def addC (a b : Nat) : Nat := if 65535 < a + b then a + b - 65535 else a + b
def sumW : Nat → List UInt8 → Nat
  | s, a :: b :: t => sumW (addC s (a.toNat * 256 + b.toNat)) t
  | s, [a] => addC s (a.toNat * 256)
  | s, [] => s
def sumL : Nat → List (List UInt8) → Nat
  | s, [] => s
  | s, l :: t => sumL (sumW s l) t
def csum (ls : List (List UInt8)) : Nat := 65535 - sumL 0 ls
def b16 (n : Nat) : List UInt8 := [UInt8.ofNat (n / 256), UInt8.ofNat (n % 256)]
def b32 (n : Nat) : List UInt8 := b16 (n / 65536) ++ b16 (n % 65536)

theorem byt_lt (l : List UInt8) (i : Nat) : byt l i < 256 := UInt8.toNat_lt _
theorem g16_lt (l : List UInt8) (i : Nat) : g16 l i < 65536 := by
  unfold g16; have := byt_lt l i; have := byt_lt l (i + 1); split <;> omega
theorem g32_lt (l : List UInt8) (i : Nat) : g32 l i < 4294967296 := by
  unfold g32; have := g16_lt l i; have := g16_lt l (i + 2); split <;> omega
theorem byt_get {l : List UInt8} {i : Nat} (h : i < l.length) : byt l i = l[i].toNat := by simp [byt, List.getElem?_eq_getElem h]
theorem addC_lt {a b : Nat} (ha : a < 65536) (hb : b < 65536) : addC a b < 65536 := by unfold addC; split <;> omega
theorem sumW_lt : ∀ (l : List UInt8) (s : Nat), s < 65536 → sumW s l < 65536
  | [], s, h => by simpa [sumW] using h
  | [a], s, h => by simp only [sumW]; have := a.toNat_lt; exact addC_lt h (by omega)
  | a :: b :: t, s, h => by simp only [sumW]; have := a.toNat_lt; have := b.toNat_lt; exact sumW_lt t _ (addC_lt h (by omega))
theorem sumL_lt : ∀ (ls : List (List UInt8)) (s : Nat), s < 65536 → sumL s ls < 65536
  | [], s, h => h
  | l :: t, s, h => sumL_lt t _ (sumW_lt l s h)
/-- A byte 0 behind an odd text changes nothing. -/
theorem sumW_pad : ∀ (l : List UInt8) (s : Nat), l.length % 2 = 1 → sumW s (l ++ [0]) = sumW s l
  | [], s, h => by simp at h
  | [a], s, h => by simp [sumW]
  | a :: b :: t, s, h => by simp only [List.cons_append, sumW]; exact sumW_pad t _ (by simp at h; omega)
theorem drop2 {l : List UInt8} {i : Nat} (h : i + 2 ≤ l.length) : l.drop i = l[i] :: l[i + 1] :: l.drop (i + 2) := by
  rw [List.drop_eq_getElem_cons (by omega), List.drop_eq_getElem_cons (show i + 1 < l.length by omega)]
theorem sumW_step {l : List UInt8} {i s : Nat} (h : i + 2 ≤ l.length) : sumW s (l.drop i) = sumW (addC s (g16 l i)) (l.drop (i + 2)) := by
  rw [drop2 h, sumW, g16, if_pos h, byt_get, byt_get]
theorem sumW_one {l : List UInt8} {i s : Nat} (h : i + 1 = l.length) : sumW s (l.drop i) = addC s (byt l i * 256) := by
  rw [List.drop_eq_getElem_cons (by omega), byt_get (by omega), show l.drop (i + 1) = [] from List.drop_eq_nil_of_le (by omega)]
  rfl
theorem sumW_end {l : List UInt8} {i s : Nat} (h : l.length ≤ i) : sumW s (l.drop i) = s := by
  rw [List.drop_eq_nil_of_le h]; rfl

/-- IPv4's header: 0, or why not. -/
def ipWhy (l : List UInt8) : Nat :=
  if l.length < 20 then 1
  else if byt l 0 / 16 ≠ 4 then 2
  else if ¬ (20 ≤ byt l 0 % 16 * 4 ∧ byt l 0 % 16 * 4 ≤ g16 l 2 ∧ g16 l 2 ≤ l.length ∧ g16 l 2 ≤ 2048) then 3
  else if csum [l.take (byt l 0 % 16 * 4)] ≠ 0 then 4
  else if g16 l 6 ≠ 0 ∧ g16 l 6 ≠ 16384 then 5
  else 0
def ipOwn (l : List UInt8) : Nat := byt l 0 % 16 * 4
def ipLoad (l : List UInt8) : List UInt8 := (l.take (g16 l 2)).drop (ipOwn l)

/-- What is seen of a packet: kind, flags, ports, whether it asks. -/
structure Sn where
  proto : Nat
  src : Nat
  sp : Nat
  dst : Nat
  dp : Nat
  kind : Nat
  flags : Nat
  ask : Bool
  ttl : Nat
deriving DecidableEq

def tcpOk (d : List UInt8) : Bool := decide (20 ≤ d.length ∧ 20 ≤ byt d 12 / 16 * 4 ∧ byt d 12 / 16 * 4 ≤ d.length)
def udpOk (d : List UInt8) : Bool := decide (8 ≤ d.length ∧ g16 d 4 = d.length)
def firstB (f : Nat) : Bool := f % 2 == 0 && f / 2 % 2 == 1 && f / 4 % 2 == 0 && f / 16 % 2 == 0
def askB (d : List UInt8) : Bool := byt d 1 == 0 && (byt d 0 == 8 || byt d 0 == 13)
def queryB (d : List UInt8) : Bool := byt d 1 == 0 && (byt d 0 == 8 || byt d 0 == 13 || byt d 0 == 0 || byt d 0 == 14)
def errB (d : List UInt8) : Bool := byt d 0 == 3 || byt d 0 == 11 || byt d 0 == 12
def icmpId (d : List UInt8) : Nat := g16 ((d.take 8).drop 4) 0

/-- What is seen of what a packet carries; a number: why nothing is. -/
def lookAt (proto src dst ttl : Nat) (d : List UInt8) : Sn ⊕ Nat :=
  if proto = 6 then
    if tcpOk d then .inl ⟨6, src, g16 d 0, dst, g16 d 2, if firstB (byt d 13) then 1 else 2, byt d 13, false, ttl⟩ else .inr 7
  else if proto = 17 then
    if udpOk d then .inl ⟨17, src, g16 d 0, dst, g16 d 2, 2, 0, false, ttl⟩ else .inr 7
  else if proto = 1 then
    if d.length < 8 then .inr 7
    else if askB d then .inl ⟨1, src, icmpId d, dst, 0, 2, 0, true, ttl⟩
    else if queryB d then .inl ⟨1, src, 0, dst, icmpId d, 2, 0, false, ttl⟩
    else if errB d then .inl ⟨1, src, 0, dst, 0, 3, 0, false, ttl⟩
    else .inr 6
  else .inr 6
def seenOf (l : List UInt8) : Sn ⊕ Nat :=
  if ipWhy l = 0 then lookAt (byt l 9) (g32 l 12) (g32 l 16) (byt l 8) (ipLoad l) else .inr (ipWhy l)

-- the document's packets
def ipHead (tos id : Nat) (fl : Bool) (ttl proto src dst : Nat) (opts : List UInt8) (size sum : Nat) : List UInt8 :=
  [UInt8.ofNat (69 + opts.length / 4), UInt8.ofNat tos] ++ (b16 size ++ b16 id ++ b16 (if fl then 16384 else 0)) ++ [UInt8.ofNat ttl, UInt8.ofNat proto] ++ b16 sum ++ b32 src ++ b32 dst ++ opts
/-- A packet without options: its bytes. -/
def ipPut (ttl proto src dst : Nat) (d : List UInt8) : List UInt8 :=
  ipHead 0 0 false ttl proto src dst [] (20 + d.length) (csum [ipHead 0 0 false ttl proto src dst [] (20 + d.length) 0]) ++ d
def pseudo (src dst proto size : Nat) : List UInt8 := b32 src ++ b32 dst ++ (b16 proto ++ b16 (size % 65536))
def udpRaw (a b : Nat) (d : List UInt8) : List UInt8 := b16 a ++ b16 b ++ b16 ((8 + d.length) % 65536) ++ b16 0 ++ d
def udpSeal (src dst : Nat) (s : List UInt8) : List UInt8 :=
  if s.length < 8 then s else
  let n := csum [pseudo src dst 17 s.length, s.take 6 ++ [0, 0] ++ s.drop 8]
  s.take 6 ++ b16 (if n = 0 then 65535 else n) ++ s.drop 8
def tcpRaw (a b flags : Nat) (d : List UInt8) : List UInt8 :=
  b16 a ++ b16 b ++ b32 1000 ++ b32 2000 ++ [80, UInt8.ofNat flags] ++ (b16 512 ++ b16 0 ++ b16 0) ++ d
def tcpSeal (src dst : Nat) (s : List UInt8) : List UInt8 :=
  if s.length < 20 then s else s.take 16 ++ b16 (csum [pseudo src dst 6 s.length, s.take 16 ++ [0, 0] ++ s.drop 18]) ++ s.drop 18
def icmpRaw (a b : Nat) (d : List UInt8) : List UInt8 := [if b = 0 then 8 else 0, 0, 0, 0] ++ (b16 (if b = 0 then a else b) ++ [0, 1]) ++ d
def icmpSeal (s : List UInt8) : List UInt8 := if s.length < 8 then s else s.take 2 ++ b16 (csum [s.take 2 ++ [0, 0] ++ s.drop 4]) ++ s.drop 4

-- the chapter's examples
theorem seen_udp : seenOf (ipPut 64 17 167772161 16909060 (udpSeal 167772161 16909060 (udpRaw 5 53 [113]))) = .inl ⟨17, 167772161, 5, 16909060, 53, 2, 0, false, 64⟩ := by decide +kernel
theorem seen_tcp1 : seenOf (ipPut 64 6 167772161 16909060 (tcpSeal 167772161 16909060 (tcpRaw 5 80 2 []))) = .inl ⟨6, 167772161, 5, 16909060, 80, 1, 2, false, 64⟩ := by decide +kernel
theorem seen_tcp2 : seenOf (ipPut 64 6 167772161 16909060 (tcpSeal 167772161 16909060 (tcpRaw 5 80 18 []))) = .inl ⟨6, 167772161, 5, 16909060, 80, 2, 18, false, 64⟩ := by decide +kernel
theorem seen_ask : seenOf (ipPut 64 1 167772161 16909060 (icmpSeal (icmpRaw 7 0 []))) = .inl ⟨1, 167772161, 7, 16909060, 0, 2, 0, true, 64⟩ := by decide +kernel
theorem seen_told : seenOf (ipPut 64 1 167772161 16909060 (icmpSeal (icmpRaw 0 7 []))) = .inl ⟨1, 167772161, 0, 16909060, 7, 2, 0, false, 64⟩ := by decide +kernel
theorem seen_no1 : seenOf (ipPut 64 2 167772161 16909060 [49, 50, 51, 52, 53, 54, 55, 56]) = .inr 6 := by decide +kernel
theorem seen_no2 : seenOf (ipPut 64 1 167772161 16909060 [5, 0, 49, 50, 51, 52, 53, 54]) = .inr 6 := by decide +kernel
theorem seen_no3 : seenOf (ipPut 64 17 167772161 16909060 [49, 50, 51, 52, 53, 54, 55]) = .inr 7 := by decide +kernel
end Go.Proofs.YtmghjaoodnkjlaaGreatDoor
namespace Go.Proofs.YtmghjaoodnkjlaaGreatDoor
set_option linter.unusedVariables false
set_option linter.unusedSimpArgs false

theorem byt_take {l : List UInt8} {i m : Nat} (h : i < m) : byt (l.take m) i = byt l i := by
  unfold byt; rw [List.getElem?_take_of_lt h]
theorem g16_take {l : List UInt8} {i m : Nat} (h : i + 2 ≤ m) (hm : m ≤ l.length) : g16 (l.take m) i = g16 l i := by
  unfold g16; rw [byt_take (by omega), byt_take (by omega), List.length_take, Nat.min_eq_left hm, if_pos h, if_pos (by omega)]
theorem g32_take {l : List UInt8} {i m : Nat} (h : i + 4 ≤ m) (hm : m ≤ l.length) : g32 (l.take m) i = g32 l i := by
  unfold g32; rw [g16_take (by omega) hm, g16_take (by omega) hm, List.length_take, Nat.min_eq_left hm, if_pos h, if_pos (by omega)]

structure IpOk (l : List UInt8) : Prop where
  len : 20 ≤ l.length
  ver : byt l 0 / 16 = 4
  own : 20 ≤ ipOwn l
  all : ipOwn l ≤ g16 l 2
  has : g16 l 2 ≤ l.length
  most : g16 l 2 ≤ 2048
  sum : csum [l.take (ipOwn l)] = 0
  pieces : g16 l 6 = 0 ∨ g16 l 6 = 16384

theorem ipWhy_zero {l : List UInt8} : ipWhy l = 0 ↔ IpOk l := by
  unfold ipWhy
  constructor
  · intro h
    split at h; · omega
    split at h; · omega
    split at h; · omega
    split at h; · omega
    split at h; · omega
    rename_i h1 h2 h3 h4 h5
    exact ⟨by omega, by omega, by unfold ipOwn; omega, by unfold ipOwn; omega, by omega, by omega, by unfold ipOwn; omega, by omega⟩
  · rintro ⟨h1, h2, h3, h4, h5, h6, h7, h8⟩
    unfold ipOwn at *
    rw [if_neg (by omega), if_neg (by omega), if_neg (by omega), if_neg (by omega), if_neg (by omega)]

theorem ipOk_take {l : List UInt8} {m : Nat} (h : IpOk l) (h1 : g16 l 2 ≤ m) (hm : m ≤ l.length) : IpOk (l.take m) := by
  obtain ⟨a1, a2, a3, a4, a5, a6, a7, a8⟩ := h
  have o : ipOwn (l.take m) = ipOwn l := by unfold ipOwn; rw [byt_take (by omega)]
  have g : g16 (l.take m) 2 = g16 l 2 := g16_take (by omega) hm
  have hl : (l.take m).length = m := by rw [List.length_take]; omega
  refine ⟨by omega, by rw [byt_take (by omega)]; exact a2, by omega, by omega, by omega, by omega, ?_, ?_⟩
  · rw [o, List.take_take, Nat.min_eq_left (by omega)]; exact a7
  · rw [g16_take (by omega) hm]; exact a8
theorem seen_take {l : List UInt8} {m : Nat} (h : IpOk l) (h1 : g16 l 2 ≤ m) (hm : m ≤ l.length) : seenOf (l.take m) = seenOf l := by
  have h2 := ipOk_take h h1 hm
  have ha := h.own; have hb := h.all; have hc := h.has
  unfold seenOf
  rw [if_pos (ipWhy_zero.2 h), if_pos (ipWhy_zero.2 h2), byt_take (by omega), byt_take (by omega), g32_take (by omega) hm, g32_take (by omega) hm]
  congr 1
  unfold ipLoad ipOwn
  rw [byt_take (by omega), g16_take (by omega) hm, List.take_take, Nat.min_eq_left (by omega)]
theorem seen_cut {l : List UInt8} {m : Nat} (h : IpOk l) (h1 : m < g16 l 2) : ∃ r, seenOf (l.take m) = .inr r ∧ 0 < r := by
  have hc := h.has
  have hl : (l.take m).length = m := by rw [List.length_take]; omega
  have : ipWhy (l.take m) ≠ 0 := by
    intro e
    have k := ipWhy_zero.1 e
    have h20 := k.len
    have hh := k.has
    rw [g16_take (by omega) (by omega)] at hh
    omega
  exact ⟨_, by unfold seenOf; rw [if_neg this], by omega⟩
theorem seen_no {l : List UInt8} {r : Nat} (h : seenOf l = .inr r) : 0 < r := by
  unfold seenOf at h
  split at h
  · unfold lookAt at h
    (repeat' split at h) <;> cases h <;> omega
  · cases h; omega
theorem seen_ok {l : List UInt8} {x : Sn} (h : seenOf l = .inl x) : IpOk l ∧ (x.proto = 6 ∨ x.proto = 17 ∨ x.proto = 1 ∧ (x.sp = 0 ∨ x.dp = 0)) ∧ 1 ≤ x.kind ∧ x.kind ≤ 3 := by
  unfold seenOf at h
  split at h
  · rename_i h0
    refine ⟨ipWhy_zero.1 h0, ?_⟩
    unfold lookAt at h
    (repeat' split at h) <;> cases h <;> simp
  · cases h
theorem seen_lt {l : List UInt8} {x : Sn} (h : seenOf l = .inl x) : x.proto < 256 ∧ x.src < 4294967296 ∧ x.sp < 65536 ∧ x.dst < 4294967296 ∧ x.dp < 65536 ∧ x.flags < 256 ∧ x.ttl < 256 := by
  unfold seenOf at h
  have a := g32_lt l 12; have b := g32_lt l 16; have c := byt_lt l 8
  split at h
  · unfold lookAt at h
    have i1 := g16_lt (ipLoad l) 0; have i2 := g16_lt (ipLoad l) 2; have i3 := byt_lt (ipLoad l) 13
    have i4 : icmpId (ipLoad l) < 65536 := g16_lt _ _
    (repeat' split at h) <;> cases h <;> simp <;> omega
  · cases h
end Go.Proofs.YtmghjaoodnkjlaaGreatDoor
namespace Go.Proofs.YtmghjaoodnkjlaaGreatDoor
set_option linter.unusedVariables false
set_option linter.unusedSimpArgs false

def wsum : List UInt8 → Nat
  | a :: b :: t => (a.toNat * 256 + b.toNat) + wsum t
  | [a] => a.toNat * 256
  | [] => 0
theorem addC_mod (a b : Nat) : addC a b % 65535 = (a + b) % 65535 := by unfold addC; split <;> omega
theorem addC_zero {a b : Nat} : addC a b = 0 ↔ a = 0 ∧ b = 0 := by unfold addC; split <;> omega
theorem sumW_mod : ∀ (l : List UInt8) (s : Nat), sumW s l % 65535 = (s + wsum l) % 65535
  | [], s => by simp [sumW, wsum]
  | [a], s => by simp only [sumW, wsum]; exact addC_mod _ _
  | a :: b :: t, s => by
    simp only [sumW, wsum]
    rw [sumW_mod t, Nat.add_mod, addC_mod, ← Nat.add_mod, Nat.add_assoc]
theorem sumW_zero : ∀ (l : List UInt8) (s : Nat), sumW s l = 0 → s = 0
  | [], s, h => h
  | [a], s, h => (addC_zero.1 h).1
  | a :: b :: t, s, h => by simp only [sumW] at h; exact (addC_zero.1 (sumW_zero t _ h)).1
theorem sumW_first {a b : UInt8} {t : List UInt8} (h : 0 < a.toNat) : 0 < sumW 0 (a :: b :: t) := by
  apply Nat.pos_of_ne_zero
  intro e
  simp only [sumW] at e
  have := (addC_zero.1 (sumW_zero t _ e)).2
  omega
theorem wsum_append : ∀ (a b : List UInt8), a.length % 2 = 0 → wsum (a ++ b) = wsum a + wsum b
  | [], b, _ => by simp [wsum]
  | [x], b, h => by simp at h
  | x :: y :: t, b, h => by
    simp only [List.cons_append, wsum]
    rw [wsum_append t b (by simp at h; omega)]; omega
theorem b16_len (n : Nat) : (b16 n).length = 2 := rfl
theorem wsum_b16 {n : Nat} (h : n < 65536) : wsum (b16 n) = n := by
  simp only [b16, wsum, UInt8.toNat_ofNat']; omega

/-- A header whose sum stands in it comes to nothing. -/
theorem seal_zero {p q : List UInt8} {a b : UInt8} {t : List UInt8} (hp : p.length % 2 = 0) (hpq : p = a :: b :: t) (ha : 0 < a.toNat) :
    csum [p ++ b16 (csum [p ++ b16 0 ++ q]) ++ q] = 0 := by
  have e1 : ∀ n, n < 65536 → wsum (p ++ b16 n ++ q) = wsum p + n + wsum q := by
    intro n hn
    rw [wsum_append _ _ (by simp [b16_len]; omega), wsum_append _ _ hp, wsum_b16 hn]
  have l1 : sumW 0 (p ++ b16 0 ++ q) < 65536 := sumW_lt _ _ (by omega)
  have m1 := sumW_mod (p ++ b16 0 ++ q) 0
  rw [e1 0 (by omega)] at m1
  have hc : csum [p ++ b16 0 ++ q] = 65535 - sumW 0 (p ++ b16 0 ++ q) := rfl
  obtain ⟨c, hcc⟩ : ∃ c, c = csum [p ++ b16 0 ++ q] := ⟨_, rfl⟩
  rw [← hcc] at hc ⊢
  have m2 := sumW_mod (p ++ b16 c ++ q) 0
  rw [e1 c (by omega)] at m2
  have l2 : sumW 0 (p ++ b16 c ++ q) < 65536 := sumW_lt _ _ (by omega)
  have p1 : 0 < sumW 0 (p ++ b16 c ++ q) := by subst hpq; exact sumW_first ha
  show 65535 - sumW 0 (p ++ b16 c ++ q) = 0
  omega

theorem ofNat_toNat {n : Nat} (h : n < 256) : (UInt8.ofNat n).toNat = n := by rw [UInt8.toNat_ofNat']; omega
theorem byt_cons0 (a : UInt8) (l : List UInt8) : byt (a :: l) 0 = a.toNat := rfl
theorem byt_consS (a : UInt8) (l : List UInt8) (i : Nat) : byt (a :: l) (i + 1) = byt l i := rfl

theorem g16_at {p q : List UInt8} {n : Nat} (hn : n < 65536) : g16 (p ++ (b16 n ++ q)) p.length = n := by
  unfold g16
  rw [if_pos (by simp [b16_len])]
  have e0 : byt (p ++ (b16 n ++ q)) p.length = n / 256 := by
    simp only [byt, List.getElem?_append_right (Nat.le_refl _), Nat.sub_self, b16, List.cons_append, List.getElem?_cons_zero, Option.getD_some, UInt8.toNat_ofNat']; omega
  have e1 : byt (p ++ (b16 n ++ q)) (p.length + 1) = n % 256 := by
    simp only [byt, List.getElem?_append_right (Nat.le_add_right _ _), Nat.add_sub_cancel_left, b16, List.cons_append, List.getElem?_cons_succ, List.getElem?_cons_zero, Option.getD_some, UInt8.toNat_ofNat']; omega
  rw [e0, e1]; omega
theorem g16_at' {l p q : List UInt8} {n i : Nat} (hn : n < 65536) (h : l = p ++ (b16 n ++ q)) (hi : p.length = i) : g16 l i = n := by subst h; subst hi; exact g16_at hn
theorem g32_at' {l p q : List UInt8} {n i : Nat} (hn : n < 4294967296) (h : l = p ++ (b32 n ++ q)) (hi : p.length = i) : g32 l i = n := by
  subst h; subst hi
  unfold g32
  rw [if_pos (by simp [b32, b16_len]; omega)]
  have e0 : g16 (p ++ (b32 n ++ q)) p.length = n / 65536 := g16_at' (p := p) (q := b16 (n % 65536) ++ q) (by omega) (by simp [b32]) rfl
  have e1 : g16 (p ++ (b32 n ++ q)) (p.length + 2) = n % 65536 := g16_at' (p := p ++ b16 (n / 65536)) (q := q) (by omega) (by simp [b32]) (by simp [b16_len])
  rw [e0, e1]; omega

theorem seen_put {tos id ttl proto src dst : Nat} {fl : Bool} {opts d beh : List UInt8} (htos : tos < 256) (hid : id < 65536) (httl : ttl < 256) (hpr : proto < 256) (hsrc : src < 4294967296) (hdst : dst < 4294967296)
    (ho : opts.length ≤ 40) (h4 : opts.length % 4 = 0) (hd : 20 + opts.length + d.length ≤ 2048) :
    seenOf (ipHead tos id fl ttl proto src dst opts (20 + opts.length + d.length) (csum [ipHead tos id fl ttl proto src dst opts (20 + opts.length + d.length) 0]) ++ d ++ beh) = lookAt proto src dst ttl d := by
  obtain ⟨n, hn⟩ : ∃ n, n = 20 + opts.length + d.length := ⟨_, rfl⟩
  rw [← hn]
  have hc : csum [ipHead tos id fl ttl proto src dst opts n 0] < 65536 := by unfold csum; omega
  have hz : csum [ipHead tos id fl ttl proto src dst opts n (csum [ipHead tos id fl ttl proto src dst opts n 0])] = 0 := by
    have k := seal_zero (p := [UInt8.ofNat (69 + opts.length / 4), UInt8.ofNat tos] ++ (b16 n ++ b16 id ++ b16 (if fl then 16384 else 0)) ++ [UInt8.ofNat ttl, UInt8.ofNat proto]) (q := b32 src ++ b32 dst ++ opts)
      (by simp [b16_len]) rfl (by rw [ofNat_toNat (by omega)]; omega)
    simpa only [ipHead, List.append_assoc] using k
  generalize csum [ipHead tos id fl ttl proto src dst opts n 0] = c at *
  obtain ⟨h, hh⟩ : ∃ h, h = ipHead tos id fl ttl proto src dst opts n c := ⟨_, rfl⟩
  rw [← hh] at hz ⊢
  have hl : h.length = 20 + opts.length := by rw [hh]; simp [ipHead, b32, b16_len]; omega
  have r0 : byt (h ++ d ++ beh) 0 = 69 + opts.length / 4 := by
    rw [hh]; exact ofNat_toNat (by omega)
  have o : ipOwn (h ++ d ++ beh) = 20 + opts.length := by unfold ipOwn; rw [r0]; omega
  have w2 : g16 (h ++ d ++ beh) 2 = n := g16_at' (p := [UInt8.ofNat (69 + opts.length / 4), UInt8.ofNat tos]) (q := b16 id ++ b16 (if fl then 16384 else 0) ++ [UInt8.ofNat ttl, UInt8.ofNat proto] ++ b16 c ++ b32 src ++ b32 dst ++ opts ++ d ++ beh) (by omega) (by rw [hh]; simp [ipHead]) rfl
  have w6 : g16 (h ++ d ++ beh) 6 = if fl then 16384 else 0 := g16_at' (p := [UInt8.ofNat (69 + opts.length / 4), UInt8.ofNat tos] ++ b16 n ++ b16 id) (q := [UInt8.ofNat ttl, UInt8.ofNat proto] ++ b16 c ++ b32 src ++ b32 dst ++ opts ++ d ++ beh) (by split <;> omega) (by rw [hh]; simp [ipHead]) rfl
  have r8 : byt (h ++ d ++ beh) 8 = ttl := by rw [hh]; exact ofNat_toNat httl
  have r9 : byt (h ++ d ++ beh) 9 = proto := by rw [hh]; exact ofNat_toNat hpr
  have w12 : g32 (h ++ d ++ beh) 12 = src := g32_at' (p := [UInt8.ofNat (69 + opts.length / 4), UInt8.ofNat tos] ++ b16 n ++ b16 id ++ b16 (if fl then 16384 else 0) ++ [UInt8.ofNat ttl, UInt8.ofNat proto] ++ b16 c) (q := b32 dst ++ opts ++ d ++ beh) hsrc (by rw [hh]; simp [ipHead]) rfl
  have w16 : g32 (h ++ d ++ beh) 16 = dst := g32_at' (p := [UInt8.ofNat (69 + opts.length / 4), UInt8.ofNat tos] ++ b16 n ++ b16 id ++ b16 (if fl then 16384 else 0) ++ [UInt8.ofNat ttl, UInt8.ofNat proto] ++ b16 c ++ b32 src) (q := opts ++ d ++ beh) hdst (by rw [hh]; simp [ipHead]) rfl
  have hlen : (h ++ d ++ beh).length = 20 + opts.length + d.length + beh.length := by simp [hl]; omega
  have ok : IpOk (h ++ d ++ beh) := by
    refine ⟨by omega, by rw [r0]; omega, by omega, by omega, by omega, by omega, ?_, by rw [w6]; cases fl <;> simp⟩
    rw [o, ← hl, List.append_assoc, List.take_left']; exact hz; rfl
  have hload : ipLoad (h ++ d ++ beh) = d := by
    unfold ipLoad
    rw [w2, o, List.take_left' (by simp [hl]; omega), List.drop_left' hl]
  unfold seenOf
  rw [if_pos (ipWhy_zero.2 ok), r8, r9, w12, w16, hload]

def tcpPutL (sp dp seq ack low flags win sum urg : Nat) (opts d : List UInt8) : List UInt8 :=
  (b16 sp ++ b16 dp) ++ b32 seq ++ b32 ack ++ (b16 ((20 + opts.length) / 4 * 4096 + low * 256 + flags) ++ b16 win ++ b16 sum ++ b16 urg) ++ opts ++ d
def udpPutL (sp dp sum : Nat) (d : List UInt8) : List UInt8 := (b16 sp ++ b16 dp ++ b16 ((8 + d.length) % 65536) ++ b16 sum) ++ d
def icmpPutL (ty sum id : Nat) (d : List UInt8) : List UInt8 := (b16 (ty * 256) ++ b16 sum) ++ (b16 id ++ [46, 46]) ++ d

theorem look_tcp {sp dp seq ack low flags win sum urg src dst ttl : Nat} {opts d : List UInt8} (h1 : sp < 65536) (h2 : dp < 65536) (h3 : low ≤ 15) (h4 : flags < 256) (ho : opts.length ≤ 40) (ho4 : opts.length % 4 = 0) :
    lookAt 6 src dst ttl (tcpPutL sp dp seq ack low flags win sum urg opts d) = .inl ⟨6, src, sp, dst, dp, if firstB flags then 1 else 2, flags, false, ttl⟩ := by
  obtain ⟨l, hl⟩ : ∃ l, l = tcpPutL sp dp seq ack low flags win sum urg opts d := ⟨_, rfl⟩
  rw [← hl]
  have len : l.length = 20 + opts.length + d.length := by rw [hl]; simp [tcpPutL, b32, b16_len]; omega
  have a0 : g16 l 0 = sp := g16_at' (p := []) (q := b16 dp ++ b32 seq ++ b32 ack ++ (b16 ((20 + opts.length) / 4 * 4096 + low * 256 + flags) ++ b16 win ++ b16 sum ++ b16 urg) ++ opts ++ d) h1 (by rw [hl]; simp [tcpPutL]) rfl
  have a2 : g16 l 2 = dp := g16_at' (p := b16 sp) (q := b32 seq ++ b32 ack ++ (b16 ((20 + opts.length) / 4 * 4096 + low * 256 + flags) ++ b16 win ++ b16 sum ++ b16 urg) ++ opts ++ d) h2 (by rw [hl]; simp [tcpPutL]) rfl
  have r12 : byt l 12 = ((20 + opts.length) / 4 * 4096 + low * 256 + flags) / 256 := by rw [hl]; exact ofNat_toNat (by omega)
  have r13 : byt l 13 = flags := by
    have : byt l 13 = (UInt8.ofNat (((20 + opts.length) / 4 * 4096 + low * 256 + flags) % 256)).toNat := by rw [hl]; rfl
    rw [this, ofNat_toNat (by omega)]; omega
  have ok : tcpOk l = true := by unfold tcpOk; rw [r12]; exact decide_eq_true (by omega)
  unfold lookAt
  rw [if_pos rfl, if_pos ok, a0, a2, r13]
theorem look_udp {sp dp sum src dst ttl : Nat} {d : List UInt8} (h1 : sp < 65536) (h2 : dp < 65536) (hd : d.length ≤ 60000) :
    lookAt 17 src dst ttl (udpPutL sp dp sum d) = .inl ⟨17, src, sp, dst, dp, 2, 0, false, ttl⟩ := by
  obtain ⟨l, hl⟩ : ∃ l, l = udpPutL sp dp sum d := ⟨_, rfl⟩
  rw [← hl]
  have len : l.length = 8 + d.length := by rw [hl]; simp [udpPutL, b16_len]; omega
  have a0 : g16 l 0 = sp := g16_at' (p := []) (q := b16 dp ++ b16 ((8 + d.length) % 65536) ++ b16 sum ++ d) h1 (by rw [hl]; simp [udpPutL]) rfl
  have a2 : g16 l 2 = dp := g16_at' (p := b16 sp) (q := b16 ((8 + d.length) % 65536) ++ b16 sum ++ d) h2 (by rw [hl]; simp [udpPutL]) rfl
  have a4 : g16 l 4 = (8 + d.length) % 65536 := g16_at' (p := b16 sp ++ b16 dp) (q := b16 sum ++ d) (by omega) (by rw [hl]; simp [udpPutL]) rfl
  have ok : udpOk l = true := by unfold udpOk; rw [a4]; exact decide_eq_true (by omega)
  unfold lookAt
  rw [if_neg (by omega), if_pos rfl, if_pos ok, a0, a2]
theorem look_icmp {ty sum id src dst ttl : Nat} {d : List UInt8} (hty : ty = 0 ∨ ty = 8 ∨ ty = 13 ∨ ty = 14) (hid : id < 65536) :
    lookAt 1 src dst ttl (icmpPutL ty sum id d) = .inl (if ty = 8 ∨ ty = 13 then ⟨1, src, id, dst, 0, 2, 0, true, ttl⟩ else ⟨1, src, 0, dst, id, 2, 0, false, ttl⟩) := by
  obtain ⟨l, hl⟩ : ∃ l, l = icmpPutL ty sum id d := ⟨_, rfl⟩
  rw [← hl]
  have len : l.length = 8 + d.length := by rw [hl]; simp [icmpPutL, b16_len]; omega
  have r0 : byt l 0 = ty := by
    have : byt l 0 = (UInt8.ofNat (ty * 256 / 256)).toNat := by rw [hl]; rfl
    rw [this, ofNat_toNat (by omega)]; omega
  have r1 : byt l 1 = 0 := by
    have : byt l 1 = (UInt8.ofNat (ty * 256 % 256)).toNat := by rw [hl]; rfl
    rw [this, ofNat_toNat (by omega)]; omega
  have hi : icmpId l = id := by
    unfold icmpId
    have : (l.take 8).drop 4 = b16 id ++ [46, 46] := by rw [hl]; rfl
    rw [this]
    exact g16_at' (p := []) (q := [46, 46]) hid rfl rfl
  unfold lookAt
  rw [if_neg (by omega), if_neg (by omega), if_pos rfl, if_neg (by omega)]
  unfold askB queryB
  rw [r0, r1, hi]
  rcases hty with rfl | rfl | rfl | rfl <;> simp
end Go.Proofs.YtmghjaoodnkjlaaGreatDoor
