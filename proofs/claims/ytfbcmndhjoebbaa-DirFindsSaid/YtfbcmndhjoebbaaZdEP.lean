import Derived.Test.YtfbcmndhjoebbaaZdFPrime
set_option linter.unusedVariables false
set_option linter.unusedSimpArgs false
/-
  The orders of the two big groups of points are prime. No condition.
-/
namespace Go.Sx
open Go Go.Proofs

theorem lp2 : Pr 2 := trial_prime 4 rfl (by kernel_rfl)
theorem lp3 : Pr 3 := trial_prime 4 rfl (by kernel_rfl)
theorem lp11 : Pr 11 := trial_prime 6 rfl (by kernel_rfl)
theorem lp23 : Pr 23 := trial_prime 7 rfl (by kernel_rfl)
theorem lp409477 : Pr 409477 := trial_prime 642 rfl (by kernel_rfl)
theorem lg14741173 : Gen 14741173 2 := gen_cert (qs := [2, 2, 3, 3, 409477]) (fun q hq => by
  simp only [List.mem_cons, List.not_mem_nil, or_false] at hq
  rcases hq with rfl | rfl | rfl | rfl | rfl
  · exact lp2
  · exact lp2
  · exact lp3
  · exact lp3
  · exact lp409477) (by kernel_rfl)
theorem lp14741173 : Pr 14741173 := lg14741173.prime
theorem lg58964693 : Gen 58964693 2 := gen_cert (qs := [2, 2, 14741173]) (fun q hq => by
  simp only [List.mem_cons, List.not_mem_nil, or_false] at hq
  rcases hq with rfl | rfl | rfl
  · exact lp2
  · exact lp2
  · exact lp14741173) (by kernel_rfl)
theorem lp58964693 : Pr 58964693 := lg58964693.prime
theorem lp30703 : Pr 30703 := trial_prime 178 rfl (by kernel_rfl)
theorem lp82163 : Pr 82163 := trial_prime 289 rfl (by kernel_rfl)
theorem lp132667 : Pr 132667 := trial_prime 367 rfl (by kernel_rfl)
theorem lp137849 : Pr 137849 := trial_prime 374 rfl (by kernel_rfl)
theorem lg3044861653679985063343 : Gen 3044861653679985063343 5 := gen_cert (qs := [2, 3, 11, 30703, 82163, 132667, 137849]) (fun q hq => by
  simp only [List.mem_cons, List.not_mem_nil, or_false] at hq
  rcases hq with rfl | rfl | rfl | rfl | rfl | rfl | rfl
  · exact lp2
  · exact lp3
  · exact lp11
  · exact lp30703
  · exact lp82163
  · exact lp132667
  · exact lp137849) (by kernel_rfl)
theorem lp3044861653679985063343 : Pr 3044861653679985063343 := lg3044861653679985063343.prime
theorem lg198211423230930754013084525763697 : Gen 198211423230930754013084525763697 5 := gen_cert (qs := [2, 2, 2, 2, 3, 23, 58964693, 3044861653679985063343]) (fun q hq => by
  simp only [List.mem_cons, List.not_mem_nil, or_false] at hq
  rcases hq with rfl | rfl | rfl | rfl | rfl | rfl | rfl | rfl
  · exact lp2
  · exact lp2
  · exact lp2
  · exact lp2
  · exact lp3
  · exact lp23
  · exact lp58964693
  · exact lp3044861653679985063343) (by kernel_rfl)
theorem lp198211423230930754013084525763697 : Pr 198211423230930754013084525763697 := lg198211423230930754013084525763697.prime
theorem lp7 : Pr 7 := trial_prime 5 rfl (by kernel_rfl)
theorem lp269 : Pr 269 := trial_prime 19 rfl (by kernel_rfl)
theorem lp5 : Pr 5 := trial_prime 5 rfl (by kernel_rfl)
theorem lp73 : Pr 73 := trial_prime 11 rfl (by kernel_rfl)
theorem lp307 : Pr 307 := trial_prime 20 rfl (by kernel_rfl)
theorem lp5879 : Pr 5879 := trial_prime 79 rfl (by kernel_rfl)
theorem lg292386187 : Gen 292386187 2 := gen_cert (qs := [2, 3, 3, 3, 3, 307, 5879]) (fun q hq => by
  simp only [List.mem_cons, List.not_mem_nil, or_false] at hq
  rcases hq with rfl | rfl | rfl | rfl | rfl | rfl | rfl
  · exact lp2
  · exact lp3
  · exact lp3
  · exact lp3
  · exact lp3
  · exact lp307
  · exact lp5879) (by kernel_rfl)
theorem lp292386187 : Pr 292386187 := lg292386187.prime
theorem lg213441916511 : Gen 213441916511 13 := gen_cert (qs := [2, 5, 73, 292386187]) (fun q hq => by
  simp only [List.mem_cons, List.not_mem_nil, or_false] at hq
  rcases hq with rfl | rfl | rfl | rfl
  · exact lp2
  · exact lp5
  · exact lp73
  · exact lp292386187) (by kernel_rfl)
theorem lp213441916511 : Pr 213441916511 := lg213441916511.prime
theorem lp1361 : Pr 1361 := trial_prime 39 rfl (by kernel_rfl)
theorem lp2851 : Pr 2851 := trial_prime 56 rfl (by kernel_rfl)
theorem lp41 : Pr 41 := trial_prime 9 rfl (by kernel_rfl)
theorem lp43 : Pr 43 := trial_prime 9 rfl (by kernel_rfl)
theorem lp531581 : Pr 531581 := trial_prime 732 rfl (by kernel_rfl)
theorem lp1224481 : Pr 1224481 := trial_prime 1109 rfl (by kernel_rfl)
theorem lg1257559732178653 : Gen 1257559732178653 2 := gen_cert (qs := [2, 2, 3, 7, 23, 531581, 1224481]) (fun q hq => by
  simp only [List.mem_cons, List.not_mem_nil, or_false] at hq
  rcases hq with rfl | rfl | rfl | rfl | rfl | rfl | rfl
  · exact lp2
  · exact lp2
  · exact lp3
  · exact lp7
  · exact lp23
  · exact lp531581
  · exact lp1224481) (by kernel_rfl)
theorem lp1257559732178653 : Pr 1257559732178653 := lg1257559732178653.prime
theorem lg4434155615661930479 : Gen 4434155615661930479 17 := gen_cert (qs := [2, 41, 43, 1257559732178653]) (fun q hq => by
  simp only [List.mem_cons, List.not_mem_nil, or_false] at hq
  rcases hq with rfl | rfl | rfl | rfl
  · exact lp2
  · exact lp41
  · exact lp43
  · exact lp1257559732178653) (by kernel_rfl)
theorem lp4434155615661930479 : Pr 4434155615661930479 := lg4434155615661930479.prime
theorem lg172054593956031949258510691 : Gen 172054593956031949258510691 2 := gen_cert (qs := [2, 5, 1361, 2851, 4434155615661930479]) (fun q hq => by
  simp only [List.mem_cons, List.not_mem_nil, or_false] at hq
  rcases hq with rfl | rfl | rfl | rfl | rfl
  · exact lp2
  · exact lp5
  · exact lp1361
  · exact lp2851
  · exact lp4434155615661930479) (by kernel_rfl)
theorem lp172054593956031949258510691 : Pr 172054593956031949258510691 := lg172054593956031949258510691.prime
theorem lg19757330305831588566944191468367130476339 : Gen 19757330305831588566944191468367130476339 2 := gen_cert (qs := [2, 269, 213441916511, 172054593956031949258510691]) (fun q hq => by
  simp only [List.mem_cons, List.not_mem_nil, or_false] at hq
  rcases hq with rfl | rfl | rfl | rfl
  · exact lp2
  · exact lp269
  · exact lp213441916511
  · exact lp172054593956031949258510691) (by kernel_rfl)
theorem lp19757330305831588566944191468367130476339 : Pr 19757330305831588566944191468367130476339 := lg19757330305831588566944191468367130476339.prime
theorem lg276602624281642239937218680557139826668747 : Gen 276602624281642239937218680557139826668747 2 := gen_cert (qs := [2, 7, 19757330305831588566944191468367130476339]) (fun q hq => by
  simp only [List.mem_cons, List.not_mem_nil, or_false] at hq
  rcases hq with rfl | rfl | rfl
  · exact lp2
  · exact lp7
  · exact lp19757330305831588566944191468367130476339) (by kernel_rfl)
theorem lp276602624281642239937218680557139826668747 : Pr 276602624281642239937218680557139826668747 := lg276602624281642239937218680557139826668747.prime
theorem lg7237005577332262213973186563042994240857116359379907606001950938285454250989 : Gen 7237005577332262213973186563042994240857116359379907606001950938285454250989 2 := gen_cert (qs := [2, 2, 3, 11, 198211423230930754013084525763697, 276602624281642239937218680557139826668747]) (fun q hq => by
  simp only [List.mem_cons, List.not_mem_nil, or_false] at hq
  rcases hq with rfl | rfl | rfl | rfl | rfl | rfl
  · exact lp2
  · exact lp2
  · exact lp3
  · exact lp11
  · exact lp198211423230930754013084525763697
  · exact lp276602624281642239937218680557139826668747) (by kernel_rfl)
theorem lp7237005577332262213973186563042994240857116359379907606001950938285454250989 : Pr 7237005577332262213973186563042994240857116359379907606001950938285454250989 := lg7237005577332262213973186563042994240857116359379907606001950938285454250989.prime
end Go.Sx
