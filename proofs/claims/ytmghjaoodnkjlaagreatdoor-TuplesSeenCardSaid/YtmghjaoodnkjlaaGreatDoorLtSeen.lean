/- Chapter 08: TuplesSeen's walk, its cases joined (written by gen8g.py). -/
import Derived.Test.YtmghjaoodnkjlaaGreatDoorLtSB
import Derived.Test.YtmghjaoodnkjlaaGreatDoorLtSC
import Derived.Test.YtmghjaoodnkjlaaGreatDoorLtSD
namespace Go.Proofs.YtmghjaoodnkjlaaGreatDoor
set_option linter.unusedVariables false
set_option linter.unusedSimpArgs false
open Go.RowKit Go.Lib Go.Sort
set_option maxRecDepth 100000 in
theorem walk_TuplesSeen (w : World) (ht : TbQ w) (v0 v1 v2 : Value) (g0 : Good Tryz.prog w 29 v0) (g1 : Good Tryz.prog w 53 v1) (g2 : Good Tryz.prog w 9 v2) : Calls Tryz.prog 8 #[v0, v1, v2] w (Ret1 (.bool true) w) := by
  obtain ⟨cs, n0, rfl, h⟩ := good_struct (v := v0) Tryz.underlying29 g0
  obtain ⟨pr, sr, sp, ds, dp, hc, hpr, hsr, hsp, hds, hdp⟩ := tup_sees h
  obtain rfl : cs = #[.int .u8 (pr : Nat), .int .u32 (sr : Nat), .int .u16 (sp : Nat), .int .u32 (ds : Nat), .int .u16 (dp : Nat)] := by rw [← Array.toList_inj, hc]
  clear h hc g0
  obtain ⟨tos, id, fl, ttl, pr0, sr0, ds0, op, sp0, dp0, seq, ack, low, fg, win, sum, urg, gop, ty, d, rfl, ⟨htos, hid, _, httl, _, _, _, hl0⟩, ⟨_, _, hseq, hack, _, hfg, hwin, hsum, hurg, hl1⟩, hty, hl2⟩ := dress_open g1
  clear g1
  obtain ⟨s, rfl, hs⟩ := good_string Tryz.underlying9 g2
  obtain ⟨beh, rfl, hs'⟩ := str_of s
  have hl3 : beh.length ≤ 9223372036854775807 := by have h9 := hs; unfold maxLen at h9; rw [hs']; exact h9
  clear g2
  cases hB : tupB pr sp dp with
  | false => exact ts_not pr hpr tos id fl ttl pr0 sr0 ds0 op sp0 dp0 seq ack low fg win sum urg gop ty d sr sp ds dp beh htos hid httl hseq hack hfg hwin hsum hurg hty hsr hsp hds hdp hl0 hl1 hl2 hl3 hB w ht
  | true =>
    by_cases h0 : op.length ≤ 600
    rotate_left
    · exact ts_long0 pr hpr tos id fl ttl pr0 sr0 ds0 op sp0 dp0 seq ack low fg win sum urg gop ty d sr sp ds dp beh htos hid httl hseq hack hfg hwin hsum hurg hty hsr hsp hds hdp hl0 hl1 hl2 hl3 hB  (by omega) w ht
    by_cases h1 : gop.length ≤ 600
    rotate_left
    · exact ts_long1 pr hpr tos id fl ttl pr0 sr0 ds0 op sp0 dp0 seq ack low fg win sum urg gop ty d sr sp ds dp beh htos hid httl hseq hack hfg hwin hsum hurg hty hsr hsp hds hdp hl0 hl1 hl2 hl3 hB h0 (by omega) w ht
    by_cases h2 : d.length ≤ 600
    rotate_left
    · exact ts_long2 pr hpr tos id fl ttl pr0 sr0 ds0 op sp0 dp0 seq ack low fg win sum urg gop ty d sr sp ds dp beh htos hid httl hseq hack hfg hwin hsum hurg hty hsr hsp hds hdp hl0 hl1 hl2 hl3 hB h0 h1 (by omega) w ht
    by_cases h3 : beh.length ≤ 100
    rotate_left
    · exact ts_long3 pr hpr tos id fl ttl pr0 sr0 ds0 op sp0 dp0 seq ack low fg win sum urg gop ty d sr sp ds dp beh htos hid httl hseq hack hfg hwin hsum hurg hty hsr hsp hds hdp hl0 hl1 hl2 hl3 hB h0 h1 h2 (by omega) w ht
    obtain ⟨m, t2, hm, ht2, KX⟩ := type_at ty hty
    have hw : pr = 1 ∨ pr = 6 ∨ pr = 17 := by simp [tupB, isWord] at hB; omega
    rcases hw with rfl | rfl | rfl
    · have hz : sp = 0 ∨ dp = 0 := by simp [tupB, isWord] at hB; omega
      by_cases hs0 : sp = 0
      · subst hs0
        by_cases hT0 : t2 = 0
        · exact ts_icmp01 tos id fl ttl pr0 sr0 ds0 op sp0 dp0 seq ack low fg win sum urg gop ty d sr 0 ds 0 beh dp hdp htos hid httl hseq hack hfg hwin hsum hurg hty hsr (by omega) hds (by omega) hl0 hl1 hl2 hl3 h0 h1 h2 h3 m t2 hm ht2 KX hT0 w ht
        by_cases hT14 : t2 = 14
        · exact ts_icmp141 tos id fl ttl pr0 sr0 ds0 op sp0 dp0 seq ack low fg win sum urg gop ty d sr 0 ds 0 beh dp hdp htos hid httl hseq hack hfg hwin hsum hurg hty hsr (by omega) hds (by omega) hl0 hl1 hl2 hl3 h0 h1 h2 h3 m t2 hm ht2 KX hT0 hT14 w ht
        · exact ts_icmp81 tos id fl ttl pr0 sr0 ds0 op sp0 dp0 seq ack low fg win sum urg gop ty d sr 0 ds 0 beh dp hdp htos hid httl hseq hack hfg hwin hsum hurg hty hsr (by omega) hds (by omega) hl0 hl1 hl2 hl3 h0 h1 h2 h3 m t2 hm ht2 KX hT0 hT14 w ht
      · obtain rfl : dp = 0 := by omega
        by_cases hT0 : t2 = 0
        · exact ts_icmp00 tos id fl ttl pr0 sr0 ds0 op sp0 dp0 seq ack low fg win sum urg gop ty d sr 0 ds 0 beh sp hsp htos hid httl hseq hack hfg hwin hsum hurg hty hsr (by omega) hds (by omega) hl0 hl1 hl2 hl3 h0 h1 h2 h3 m t2 hm ht2 KX hT0 hs0 w ht
        by_cases hT14 : t2 = 14
        · exact ts_icmp140 tos id fl ttl pr0 sr0 ds0 op sp0 dp0 seq ack low fg win sum urg gop ty d sr 0 ds 0 beh sp hsp htos hid httl hseq hack hfg hwin hsum hurg hty hsr (by omega) hds (by omega) hl0 hl1 hl2 hl3 h0 h1 h2 h3 m t2 hm ht2 KX hT0 hT14 hs0 w ht
        · exact ts_icmp80 tos id fl ttl pr0 sr0 ds0 op sp0 dp0 seq ack low fg win sum urg gop ty d sr 0 ds 0 beh sp hsp htos hid httl hseq hack hfg hwin hsum hurg hty hsr (by omega) hds (by omega) hl0 hl1 hl2 hl3 h0 h1 h2 h3 m t2 hm ht2 KX hT0 hT14 hs0 w ht
    · by_cases hT0 : t2 = 0
      · cases hok : tcpOkP low gop with
        | false => exact ts_tcpno1 tos id fl ttl pr0 sr0 ds0 op sp0 dp0 seq ack low fg win sum urg gop ty d sr sp ds dp beh htos hid httl hseq hack hfg hwin hsum hurg hty hsr hsp hds hdp hl0 hl1 hl2 hl3 h0 h1 h2 h3 m t2 hm ht2 KX hT0 hok w ht
        | true =>
          have hf := flag_bits fg hfg
          cases hX2 : decide ((0 : Int) < bits .and .u8 (fg : Int) 2) with
          | false => exact ts_tcp100 tos id fl ttl pr0 sr0 ds0 op sp0 dp0 seq ack low fg win sum urg gop ty d sr sp ds dp beh htos hid httl hseq hack hfg hwin hsum hurg hty hsr hsp hds hdp hl0 hl1 hl2 hl3 h0 h1 h2 h3 m t2 hm ht2 KX hT0 hok (by rw [← hf, hX2]; rfl) hX2 w ht
          | true =>
            cases hX21 : (bits .and .u8 (fg : Int) 21 == 0) with
            | false => exact ts_tcp110 tos id fl ttl pr0 sr0 ds0 op sp0 dp0 seq ack low fg win sum urg gop ty d sr sp ds dp beh htos hid httl hseq hack hfg hwin hsum hurg hty hsr hsp hds hdp hl0 hl1 hl2 hl3 h0 h1 h2 h3 m t2 hm ht2 KX hT0 hok (by rw [← hf, hX2, hX21]; rfl) hX2 hX21 w ht
            | true => exact ts_tcp111 tos id fl ttl pr0 sr0 ds0 op sp0 dp0 seq ack low fg win sum urg gop ty d sr sp ds dp beh htos hid httl hseq hack hfg hwin hsum hurg hty hsr hsp hds hdp hl0 hl1 hl2 hl3 h0 h1 h2 h3 m t2 hm ht2 KX hT0 hok (by rw [← hf, hX2, hX21]; rfl) hX2 hX21 w ht
      · cases hok : tcpOkP low gop with
        | false => exact ts_tcpno0 tos id fl ttl pr0 sr0 ds0 op sp0 dp0 seq ack low fg win sum urg gop ty d sr sp ds dp beh htos hid httl hseq hack hfg hwin hsum hurg hty hsr hsp hds hdp hl0 hl1 hl2 hl3 h0 h1 h2 h3 m t2 hm ht2 KX hT0 hok w ht
        | true =>
          have hf := flag_bits fg hfg
          cases hX2 : decide ((0 : Int) < bits .and .u8 (fg : Int) 2) with
          | false => exact ts_tcp000 tos id fl ttl pr0 sr0 ds0 op sp0 dp0 seq ack low fg win sum urg gop ty d sr sp ds dp beh htos hid httl hseq hack hfg hwin hsum hurg hty hsr hsp hds hdp hl0 hl1 hl2 hl3 h0 h1 h2 h3 m t2 hm ht2 KX hT0 hok (by rw [← hf, hX2]; rfl) hX2 w ht
          | true =>
            cases hX21 : (bits .and .u8 (fg : Int) 21 == 0) with
            | false => exact ts_tcp010 tos id fl ttl pr0 sr0 ds0 op sp0 dp0 seq ack low fg win sum urg gop ty d sr sp ds dp beh htos hid httl hseq hack hfg hwin hsum hurg hty hsr hsp hds hdp hl0 hl1 hl2 hl3 h0 h1 h2 h3 m t2 hm ht2 KX hT0 hok (by rw [← hf, hX2, hX21]; rfl) hX2 hX21 w ht
            | true => exact ts_tcp011 tos id fl ttl pr0 sr0 ds0 op sp0 dp0 seq ack low fg win sum urg gop ty d sr sp ds dp beh htos hid httl hseq hack hfg hwin hsum hurg hty hsr hsp hds hdp hl0 hl1 hl2 hl3 h0 h1 h2 h3 m t2 hm ht2 KX hT0 hok (by rw [← hf, hX2, hX21]; rfl) hX2 hX21 w ht
    · by_cases hT0 : t2 = 0
      · exact ts_udp1 tos id fl ttl pr0 sr0 ds0 op sp0 dp0 seq ack low fg win sum urg gop ty d sr sp ds dp beh htos hid httl hseq hack hfg hwin hsum hurg hty hsr hsp hds hdp hl0 hl1 hl2 hl3 h0 h1 h2 h3 m t2 hm ht2 KX hT0 w ht
      · exact ts_udp0 tos id fl ttl pr0 sr0 ds0 op sp0 dp0 seq ack low fg win sum urg gop ty d sr sp ds dp beh htos hid httl hseq hack hfg hwin hsum hurg hty hsr hsp hds hdp hl0 hl1 hl2 hl3 h0 h1 h2 h3 m t2 hm ht2 KX hT0 w ht
end Go.Proofs.YtmghjaoodnkjlaaGreatDoor
