/-
  DERIVED. GIVEN WITH THE SEED: THE CARDS: each row of YtkjilepjblffeaaDoorRows.lean that lists a variable, with what it lists TIED to the program's text (the seventh form; the later family's looks); each row that meets fmt, with fmt's text TOLD by the authors' own Lean function (tested against real Go, not proved from fmt's source: count such statements apart). THE CARD IS WHAT COUNTS. Prove the row's statement (the work); the ties are given (YtkjilepjblffeaaDoorTie.lean); close each card by the builder's one call (the guide's Derived/Test/ToyasCard.lean, 'card_holds'). Laid BY PROGRAM, IN A SANDBOX (cutbox-door.mjs). By AI agents, Wed Nov 11 2026. No macro, syntax, notation, axiom, sorry.
-/
import Derived.Test.YtkjilepjblffeaaDoorRows
import GoSem.ClaimSeven
namespace Go.Proofs.YtkjilepjblffeaaDoor
namespace Rows

/-- THE TIED CARD OF 'smithyardlaw7.CacheChecksMatchSpec'. -/
def cacheChecksMatchSpecCard : Claim7 := { stood := { row := cacheChecksMatchSpecRow, standIns := [], harness := (true, "562a7fd587c191e5e55e3d11a310a83350b3c6ed9d50a6accdafeb2d02698ec6"), looks := true }, kinds := [], alts := [], laidByText := true, laidKinds := [.data, .pinned], laidTests := true, laidLooks := .later }
def CacheChecksMatchSpecCardSaid : Prop := Claim7.holds Tryd.pinned (.plain (OpenSpec.ofChange cacheChecksMatchSpecSpec)) cacheChecksMatchSpecCard

/-- THE TIED CARD OF 'smithyardlaw7.CacheSweptKeeps'. -/
def cacheSweptKeepsCard : Claim7 := { stood := { row := cacheSweptKeepsRow, standIns := [], harness := (true, "562a7fd587c191e5e55e3d11a310a83350b3c6ed9d50a6accdafeb2d02698ec6"), looks := true }, kinds := [], alts := [], laidByText := true, laidKinds := [.data, .pinned], laidTests := true, laidLooks := .later }
def CacheSweptKeepsCardSaid : Prop := Claim7.holds Tryd.pinned (.plain (OpenSpec.ofChange cacheSweptKeepsSpec)) cacheSweptKeepsCard

/-- THE TIED CARD OF 'smithyardlaw7.CacheMergesMatchSpec'. -/
def cacheMergesMatchSpecCard : Claim7 := { stood := { row := cacheMergesMatchSpecRow, standIns := [], harness := (true, "562a7fd587c191e5e55e3d11a310a83350b3c6ed9d50a6accdafeb2d02698ec6"), looks := true }, kinds := [], alts := [], laidByText := true, laidKinds := [.data, .pinned], laidTests := true, laidLooks := .later }
def CacheMergesMatchSpecCardSaid : Prop := Claim7.holds Tryd.pinned (.plain (OpenSpec.ofChange cacheMergesMatchSpecSpec)) cacheMergesMatchSpecCard

/-- THE TIED CARD OF 'smithyardlaw7.CacheMergedHasBoth'. -/
def cacheMergedHasBothCard : Claim7 := { stood := { row := cacheMergedHasBothRow, standIns := [], harness := (true, "562a7fd587c191e5e55e3d11a310a83350b3c6ed9d50a6accdafeb2d02698ec6"), looks := true }, kinds := [], alts := [], laidByText := true, laidKinds := [.data, .pinned], laidTests := true, laidLooks := .later }
def CacheMergedHasBothCardSaid : Prop := Claim7.holds Tryd.pinned (.plain (OpenSpec.ofChange cacheMergedHasBothSpec)) cacheMergedHasBothCard

/-- THE TIED CARD OF 'smithyardlaw7.CacheShrunkKeeps'. -/
def cacheShrunkKeepsCard : Claim7 := { stood := { row := cacheShrunkKeepsRow, standIns := [], harness := (true, "562a7fd587c191e5e55e3d11a310a83350b3c6ed9d50a6accdafeb2d02698ec6"), looks := true }, kinds := [], alts := [], laidByText := true, laidKinds := [.data, .pinned], laidTests := true, laidLooks := .later }
def CacheShrunkKeepsCardSaid : Prop := Claim7.holds Tryd.pinned (.plain (OpenSpec.ofChange cacheShrunkKeepsSpec)) cacheShrunkKeepsCard

/-- THE TIED CARD OF 'smithyardlaw7.CacheAsksMatchSpec'. -/
def cacheAsksMatchSpecCard : Claim7 := { stood := { row := cacheAsksMatchSpecRow, standIns := [], harness := (true, "562a7fd587c191e5e55e3d11a310a83350b3c6ed9d50a6accdafeb2d02698ec6"), looks := true }, kinds := [], alts := [], laidByText := true, laidKinds := [.data, .pinned], laidTests := true, laidLooks := .later }
def CacheAsksMatchSpecCardSaid : Prop := Claim7.holds Tryd.pinned (.plain (OpenSpec.ofChange cacheAsksMatchSpecSpec)) cacheAsksMatchSpecCard

/-- THE TIED CARD OF 'smithyardlaw7.CacheSweepsMatchSpec'. -/
def cacheSweepsMatchSpecCard : Claim7 := { stood := { row := cacheSweepsMatchSpecRow, standIns := [], harness := (true, "562a7fd587c191e5e55e3d11a310a83350b3c6ed9d50a6accdafeb2d02698ec6"), looks := true }, kinds := [], alts := [], laidByText := true, laidKinds := [.data, .pinned], laidTests := true, laidLooks := .later }
def CacheSweepsMatchSpecCardSaid : Prop := Claim7.holds Tryd.pinned (.plain (OpenSpec.ofChange cacheSweepsMatchSpecSpec)) cacheSweepsMatchSpecCard

/-- THE TIED CARD OF 'smithyardlaw7.CachePutIsThere'. -/
def cachePutIsThereCard : Claim7 := { stood := { row := cachePutIsThereRow, standIns := [], harness := (true, "562a7fd587c191e5e55e3d11a310a83350b3c6ed9d50a6accdafeb2d02698ec6"), looks := true }, kinds := [], alts := [], laidByText := true, laidKinds := [.data, .pinned], laidTests := true, laidLooks := .later }
def CachePutIsThereCardSaid : Prop := Claim7.holds Tryd.pinned (.plain (OpenSpec.ofChange cachePutIsThereSpec)) cachePutIsThereCard

/-- THE TIED CARD OF 'smithyardlaw7.CacheHeldStays'. -/
def cacheHeldStaysCard : Claim7 := { stood := { row := cacheHeldStaysRow, standIns := [], harness := (true, "562a7fd587c191e5e55e3d11a310a83350b3c6ed9d50a6accdafeb2d02698ec6"), looks := true }, kinds := [], alts := [], laidByText := true, laidKinds := [.data, .pinned], laidTests := true, laidLooks := .later }
def CacheHeldStaysCardSaid : Prop := Claim7.holds Tryd.pinned (.plain (OpenSpec.ofChange cacheHeldStaysSpec)) cacheHeldStaysCard

/-- THE TIED CARD OF 'smithyardlaw7.CacheFindsWhole'. -/
def cacheFindsWholeCard : Claim7 := { stood := { row := cacheFindsWholeRow, standIns := [], harness := (true, "562a7fd587c191e5e55e3d11a310a83350b3c6ed9d50a6accdafeb2d02698ec6"), looks := true }, kinds := [], alts := [], laidByText := true, laidKinds := [.data, .pinned], laidTests := true, laidLooks := .later }
def CacheFindsWholeCardSaid : Prop := Claim7.holds Tryd.pinned (.plain (OpenSpec.ofChange cacheFindsWholeSpec)) cacheFindsWholeCard

/-- THE TIED CARD OF 'smithyardlaw7.CacheKeepsRoom'. -/
def cacheKeepsRoomCard : Claim7 := { stood := { row := cacheKeepsRoomRow, standIns := [], harness := (true, "562a7fd587c191e5e55e3d11a310a83350b3c6ed9d50a6accdafeb2d02698ec6"), looks := true }, kinds := [], alts := [], laidByText := true, laidKinds := [.data, .pinned], laidTests := true, laidLooks := .later }
def CacheKeepsRoomCardSaid : Prop := Claim7.holds Tryd.pinned (.plain (OpenSpec.ofChange cacheKeepsRoomSpec)) cacheKeepsRoomCard

/-- THE TIED CARD OF 'smithyardlaw7.CacheLeasesHold'. -/
def cacheLeasesHoldCard : Claim7 := { stood := { row := cacheLeasesHoldRow, standIns := [], harness := (true, "562a7fd587c191e5e55e3d11a310a83350b3c6ed9d50a6accdafeb2d02698ec6"), looks := true }, kinds := [], alts := [], laidByText := true, laidKinds := [.data, .pinned], laidTests := true, laidLooks := .later }
def CacheLeasesHoldCardSaid : Prop := Claim7.holds Tryd.pinned (.plain (OpenSpec.ofChange cacheLeasesHoldSpec)) cacheLeasesHoldCard

/-- THE TIED CARD OF 'smithyardlaw7.CacheFollowsOn'. -/
def cacheFollowsOnCard : Claim7 := { stood := { row := cacheFollowsOnRow, standIns := [], harness := (true, "562a7fd587c191e5e55e3d11a310a83350b3c6ed9d50a6accdafeb2d02698ec6"), looks := true }, kinds := [], alts := [], laidByText := true, laidKinds := [.data, .pinned], laidTests := true, laidLooks := .later }
def CacheFollowsOnCardSaid : Prop := Claim7.holds Tryd.pinned (.plain (OpenSpec.ofChange cacheFollowsOnSpec)) cacheFollowsOnCard

/-- THE TIED CARD OF 'smithyardlaw7.CacheFitsCanBePut'. -/
def cacheFitsCanBePutCard : Claim7 := { stood := { row := cacheFitsCanBePutRow, standIns := [], harness := (true, "562a7fd587c191e5e55e3d11a310a83350b3c6ed9d50a6accdafeb2d02698ec6"), looks := true }, kinds := [], alts := [], laidByText := true, laidKinds := [.data, .pinned], laidTests := true, laidLooks := .later }
def CacheFitsCanBePutCardSaid : Prop := Claim7.holds Tryd.pinned (.plain (OpenSpec.ofChange cacheFitsCanBePutSpec)) cacheFitsCanBePutCard

/-- THE TIED CARD OF 'smithyardlaw7.CacheTextsComeBack'. -/
def cacheTextsComeBackCard : Claim7 := { stood := { row := cacheTextsComeBackRow, standIns := [], harness := (true, "562a7fd587c191e5e55e3d11a310a83350b3c6ed9d50a6accdafeb2d02698ec6"), looks := true }, kinds := [], alts := [], laidByText := true, laidKinds := [.data, .data, .data, .data, .sentinel, .sentinel, .pinned], laidTests := true, laidLooks := .later }
def CacheTextsComeBackCardSaid : Prop := Claim7.holds Tryd.pinned (.plain (OpenSpec.ofChange cacheTextsComeBackSpec)) cacheTextsComeBackCard

/-- THE SECOND FORM's CARD OF 'smithyardlaw7.CacheChecksMatchSpec'. -/
def cacheChecksMatchSpecUptoCard : Claim7 := { stood := { row := cacheChecksMatchSpecUptoRow, standIns := [], harness := (true, "562a7fd587c191e5e55e3d11a310a83350b3c6ed9d50a6accdafeb2d02698ec6"), looks := true }, kinds := [], alts := [], laidByText := true, laidKinds := [.data, .pinned], laidTests := true, laidLooks := .later }
def CacheChecksMatchSpecUptoCardSaid : Prop := Claim7.holds Tryd.pinned (.plain (OpenSpec.upto cacheChecksMatchSpecSpec)) cacheChecksMatchSpecUptoCard

/-- THE SECOND FORM's CARD OF 'smithyardlaw7.CacheSweptKeeps'. -/
def cacheSweptKeepsUptoCard : Claim7 := { stood := { row := cacheSweptKeepsUptoRow, standIns := [], harness := (true, "562a7fd587c191e5e55e3d11a310a83350b3c6ed9d50a6accdafeb2d02698ec6"), looks := true }, kinds := [], alts := [], laidByText := true, laidKinds := [.data, .pinned], laidTests := true, laidLooks := .later }
def CacheSweptKeepsUptoCardSaid : Prop := Claim7.holds Tryd.pinned (.plain (OpenSpec.upto cacheSweptKeepsSpec)) cacheSweptKeepsUptoCard

/-- THE SECOND FORM's CARD OF 'smithyardlaw7.CacheMergesMatchSpec'. -/
def cacheMergesMatchSpecUptoCard : Claim7 := { stood := { row := cacheMergesMatchSpecUptoRow, standIns := [], harness := (true, "562a7fd587c191e5e55e3d11a310a83350b3c6ed9d50a6accdafeb2d02698ec6"), looks := true }, kinds := [], alts := [], laidByText := true, laidKinds := [.data, .pinned], laidTests := true, laidLooks := .later }
def CacheMergesMatchSpecUptoCardSaid : Prop := Claim7.holds Tryd.pinned (.plain (OpenSpec.upto cacheMergesMatchSpecSpec)) cacheMergesMatchSpecUptoCard

/-- THE SECOND FORM's CARD OF 'smithyardlaw7.CacheMergedHasBoth'. -/
def cacheMergedHasBothUptoCard : Claim7 := { stood := { row := cacheMergedHasBothUptoRow, standIns := [], harness := (true, "562a7fd587c191e5e55e3d11a310a83350b3c6ed9d50a6accdafeb2d02698ec6"), looks := true }, kinds := [], alts := [], laidByText := true, laidKinds := [.data, .pinned], laidTests := true, laidLooks := .later }
def CacheMergedHasBothUptoCardSaid : Prop := Claim7.holds Tryd.pinned (.plain (OpenSpec.upto cacheMergedHasBothSpec)) cacheMergedHasBothUptoCard

/-- THE SECOND FORM's CARD OF 'smithyardlaw7.CacheShrunkKeeps'. -/
def cacheShrunkKeepsUptoCard : Claim7 := { stood := { row := cacheShrunkKeepsUptoRow, standIns := [], harness := (true, "562a7fd587c191e5e55e3d11a310a83350b3c6ed9d50a6accdafeb2d02698ec6"), looks := true }, kinds := [], alts := [], laidByText := true, laidKinds := [.data, .pinned], laidTests := true, laidLooks := .later }
def CacheShrunkKeepsUptoCardSaid : Prop := Claim7.holds Tryd.pinned (.plain (OpenSpec.upto cacheShrunkKeepsSpec)) cacheShrunkKeepsUptoCard

/-- THE SECOND FORM's CARD OF 'smithyardlaw7.CacheAsksMatchSpec'. -/
def cacheAsksMatchSpecUptoCard : Claim7 := { stood := { row := cacheAsksMatchSpecUptoRow, standIns := [], harness := (true, "562a7fd587c191e5e55e3d11a310a83350b3c6ed9d50a6accdafeb2d02698ec6"), looks := true }, kinds := [], alts := [], laidByText := true, laidKinds := [.data, .pinned], laidTests := true, laidLooks := .later }
def CacheAsksMatchSpecUptoCardSaid : Prop := Claim7.holds Tryd.pinned (.plain (OpenSpec.upto cacheAsksMatchSpecSpec)) cacheAsksMatchSpecUptoCard

/-- THE SECOND FORM's CARD OF 'smithyardlaw7.CacheSweepsMatchSpec'. -/
def cacheSweepsMatchSpecUptoCard : Claim7 := { stood := { row := cacheSweepsMatchSpecUptoRow, standIns := [], harness := (true, "562a7fd587c191e5e55e3d11a310a83350b3c6ed9d50a6accdafeb2d02698ec6"), looks := true }, kinds := [], alts := [], laidByText := true, laidKinds := [.data, .pinned], laidTests := true, laidLooks := .later }
def CacheSweepsMatchSpecUptoCardSaid : Prop := Claim7.holds Tryd.pinned (.plain (OpenSpec.upto cacheSweepsMatchSpecSpec)) cacheSweepsMatchSpecUptoCard

/-- THE SECOND FORM's CARD OF 'smithyardlaw7.CachePutIsThere'. -/
def cachePutIsThereUptoCard : Claim7 := { stood := { row := cachePutIsThereUptoRow, standIns := [], harness := (true, "562a7fd587c191e5e55e3d11a310a83350b3c6ed9d50a6accdafeb2d02698ec6"), looks := true }, kinds := [], alts := [], laidByText := true, laidKinds := [.data, .pinned], laidTests := true, laidLooks := .later }
def CachePutIsThereUptoCardSaid : Prop := Claim7.holds Tryd.pinned (.plain (OpenSpec.upto cachePutIsThereSpec)) cachePutIsThereUptoCard

/-- THE SECOND FORM's CARD OF 'smithyardlaw7.CacheHeldStays'. -/
def cacheHeldStaysUptoCard : Claim7 := { stood := { row := cacheHeldStaysUptoRow, standIns := [], harness := (true, "562a7fd587c191e5e55e3d11a310a83350b3c6ed9d50a6accdafeb2d02698ec6"), looks := true }, kinds := [], alts := [], laidByText := true, laidKinds := [.data, .pinned], laidTests := true, laidLooks := .later }
def CacheHeldStaysUptoCardSaid : Prop := Claim7.holds Tryd.pinned (.plain (OpenSpec.upto cacheHeldStaysSpec)) cacheHeldStaysUptoCard

/-- THE SECOND FORM's CARD OF 'smithyardlaw7.CacheFindsWhole'. -/
def cacheFindsWholeUptoCard : Claim7 := { stood := { row := cacheFindsWholeUptoRow, standIns := [], harness := (true, "562a7fd587c191e5e55e3d11a310a83350b3c6ed9d50a6accdafeb2d02698ec6"), looks := true }, kinds := [], alts := [], laidByText := true, laidKinds := [.data, .pinned], laidTests := true, laidLooks := .later }
def CacheFindsWholeUptoCardSaid : Prop := Claim7.holds Tryd.pinned (.plain (OpenSpec.upto cacheFindsWholeSpec)) cacheFindsWholeUptoCard

/-- THE SECOND FORM's CARD OF 'smithyardlaw7.CacheKeepsRoom'. -/
def cacheKeepsRoomUptoCard : Claim7 := { stood := { row := cacheKeepsRoomUptoRow, standIns := [], harness := (true, "562a7fd587c191e5e55e3d11a310a83350b3c6ed9d50a6accdafeb2d02698ec6"), looks := true }, kinds := [], alts := [], laidByText := true, laidKinds := [.data, .pinned], laidTests := true, laidLooks := .later }
def CacheKeepsRoomUptoCardSaid : Prop := Claim7.holds Tryd.pinned (.plain (OpenSpec.upto cacheKeepsRoomSpec)) cacheKeepsRoomUptoCard

/-- THE SECOND FORM's CARD OF 'smithyardlaw7.CacheLeasesHold'. -/
def cacheLeasesHoldUptoCard : Claim7 := { stood := { row := cacheLeasesHoldUptoRow, standIns := [], harness := (true, "562a7fd587c191e5e55e3d11a310a83350b3c6ed9d50a6accdafeb2d02698ec6"), looks := true }, kinds := [], alts := [], laidByText := true, laidKinds := [.data, .pinned], laidTests := true, laidLooks := .later }
def CacheLeasesHoldUptoCardSaid : Prop := Claim7.holds Tryd.pinned (.plain (OpenSpec.upto cacheLeasesHoldSpec)) cacheLeasesHoldUptoCard

/-- THE SECOND FORM's CARD OF 'smithyardlaw7.CacheFollowsOn'. -/
def cacheFollowsOnUptoCard : Claim7 := { stood := { row := cacheFollowsOnUptoRow, standIns := [], harness := (true, "562a7fd587c191e5e55e3d11a310a83350b3c6ed9d50a6accdafeb2d02698ec6"), looks := true }, kinds := [], alts := [], laidByText := true, laidKinds := [.data, .pinned], laidTests := true, laidLooks := .later }
def CacheFollowsOnUptoCardSaid : Prop := Claim7.holds Tryd.pinned (.plain (OpenSpec.upto cacheFollowsOnSpec)) cacheFollowsOnUptoCard

/-- THE SECOND FORM's CARD OF 'smithyardlaw7.CacheFitsCanBePut'. -/
def cacheFitsCanBePutUptoCard : Claim7 := { stood := { row := cacheFitsCanBePutUptoRow, standIns := [], harness := (true, "562a7fd587c191e5e55e3d11a310a83350b3c6ed9d50a6accdafeb2d02698ec6"), looks := true }, kinds := [], alts := [], laidByText := true, laidKinds := [.data, .pinned], laidTests := true, laidLooks := .later }
def CacheFitsCanBePutUptoCardSaid : Prop := Claim7.holds Tryd.pinned (.plain (OpenSpec.upto cacheFitsCanBePutSpec)) cacheFitsCanBePutUptoCard

/-- THE SECOND FORM's CARD OF 'smithyardlaw7.CacheTextsComeBack'. -/
def cacheTextsComeBackUptoCard : Claim7 := { stood := { row := cacheTextsComeBackUptoRow, standIns := [], harness := (true, "562a7fd587c191e5e55e3d11a310a83350b3c6ed9d50a6accdafeb2d02698ec6"), looks := true }, kinds := [], alts := [], laidByText := true, laidKinds := [.data, .data, .data, .data, .sentinel, .sentinel, .pinned], laidTests := true, laidLooks := .later }
def CacheTextsComeBackUptoCardSaid : Prop := Claim7.holds Tryd.pinned (.plain (OpenSpec.upto cacheTextsComeBackSpec)) cacheTextsComeBackUptoCard
end Rows
end Go.Proofs.YtkjilepjblffeaaDoor
